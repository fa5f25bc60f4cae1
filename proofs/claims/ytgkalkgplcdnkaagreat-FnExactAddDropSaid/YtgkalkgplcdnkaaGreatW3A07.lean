/-
 A part of the proofs over this program: rules and contracts of its functions (the rules).
-/
import Derived.Test.YtgkalkgplcdnkaaGreatW3A06
import Derived.StillTail
set_option linter.unusedVariables false
set_option linter.unusedSimpArgs false
namespace Go.AL
open Go.RowKit
mutual
def C3 : Stmt → Prop
 | .mk _ _ _ _ th el => (th.length ≤ 9223372036854775807 ∧ F2 th) ∧ (el.length ≤ 9223372036854775807 ∧ F2 el)
def F2 : List Stmt → Prop
 | [] => True
 | s :: l => C3 s ∧ F2 l
end
def Dr (l : List Stmt) : Prop := l.length ≤ 9223372036854775807 ∧ F2 l
theorem Bl:∀ {l:List Stmt}{s:Stmt},F2 l → s ∈ l → C3 s
 | a :: l, s, h, hm => by
  simp only [F2] at h
  rcases List.mem_cons.1 hm with rfl|hm
  ·exact h.1
  ·exact Bl h.2 hm
theorem Ia {l:List Stmt}{k:Nat}(h:Dr l) (hk:k < l.length):C3 l[k]! := Bl h.2 (bT l k hk)
theorem HZ {s:Stmt}(h:C3 s):Dr s.th ∧ Dr s.el:=by
 cases s
 simp only [C3] at h
 exact h
theorem Dz:∀ {l:List Stmt},(∀ s ∈ l,C3 s) → F2 l
 | [],_ => by simp only [F2]
 | s :: l,h => by simp only [F2]; exact ⟨h s (by simp),Dz fun x hx => h x (by simp [hx])⟩
def lV : List Stmt → Nat
 | [] => 0
 | s :: l => aI s.th + aI s.el + lV l
theorem Et:∀ l:List Stmt,aI l = l.length + lV l
 | [] => by simp [aI,lV]
 | s :: l => by
  have := Et l
  simp only [aI,lV,fK,List.length_cons]; omega
theorem qQ:∀ a b:List Stmt,lV (a ++ b) = lV a + lV b
 | [],b => by simp [lV]
 | s :: a, b => by
  have := qQ a b
  simp only [List.cons_append,lV]; omega
theorem De {l:List Stmt}{k:Nat}(hk:k < l.length):lV (l.take (k + 1)) = lV (l.take k) + (aI l[k]!.th + aI l[k]!.el):=by
 have e : l.take (k + 1) = l.take k ++ [l[k]!] := by rw [bF _ _ hk,List.take_succ_eq_append_getElem hk]
 rw [e,qQ]; simp only [lV]; omega
theorem HQ (l:List Stmt) (k:Nat):lV (l.take k) ≤ lV l:=by
 have := qQ (l.take k) (l.drop k)
 rw [List.take_append_drop] at this;omega
def Dp (c left : Int) : Int := if c ≤ left then left - c else -1
def J6 : Stmt := .mk 0 0 0 0 [] []
theorem FK {w:World}{bad:Nat → Prop}{ι:Pl}{b:Nat}:∀ (m β:Nat),RdC w bad ι ((List.replicate m ([Value.int .i64 0,.int .i64 0,.int .i64 0,.int .i64 0,.slice none 0 0,.slice none 0 0].map AV.v)).flatten) b β → RdC w bad ι (flat aB (List.replicate m J6)) b β
 | 0,_,_ => trivial
 | m + 1, β, h => by
  rw [List.replicate_succ,List.flatten_cons] at h
  rw [List.replicate_succ]
  obtain ⟨g0,g1,g2,g3,⟨x4,p4,q4,r4⟩,⟨x5,p5,q5,r5⟩,h4⟩ := h
  exact ⟨g0,g1,g2,g3,⟨x4,p4,q4,kR (av := .v (.slice none 0 0)) r4⟩,⟨x5,p5,q5,kR (av := .v (.slice none 0 0)) r5⟩,FK m _ h4⟩
theorem Le.zeroS {ts:List (Nat × AV)}{hs:List (Nat × Option (List AV))}{n:Nat}{z0:Lo}{i m:Nat}(hi:aP hs i = some ((List.replicate m ([Value.int .i64 0,.int .i64 0,.int .i64 0,.int .i64 0,.slice none 0 0,.slice none 0 0].map AV.v)).flatten)) :
  Le ⟨ts,hs,n,z0⟩ ⟨ts,(i,some (flat aB (List.replicate m J6))) :: hs,n,z0⟩ :=
 Le.cells hi (by rw [aK aB (e := 6)]; simp) fun w bad ι b β h => FK m β h
inductive TrH (w : World) : List Stmt → Value → List Nat → Prop
 | nil {a : Option Addr} {c : Nat} : TrH w [] (.slice a 0 c) []
 | cons {l : List Stmt} {b o c : Nat} {arr : Array Value} {ty : TypeId} {B : List Nat} (v4 v5 : Nat → Value) (B4 B5 : Nat → List Nat) : 0 < l.length → l.length ≤ c → w.heap[b]? = some (.cells arr ty (0, 0)) → o + c * 6 ≤ arr.size →
  (∀ i, i < l.length → w.cell? ⟨b, o + i * 6, none⟩ = some (.int .i64 l[i]!.op) ∧ w.cell? ⟨b, o + i * 6 + 1, none⟩ = some (.int .i64 l[i]!.x) ∧ w.cell? ⟨b, o + i * 6 + 2, none⟩ = some (.int .i64 l[i]!.y) ∧
   w.cell? ⟨b,o + i * 6 + 3,none⟩ = some (.int .i64 l[i]!.n) ∧ w.cell? ⟨b,o + i * 6 + 4,none⟩ = some (v4 i) ∧ w.cell? ⟨b,o + i * 6 + 5,none⟩ = some (v5 i)) →
  (∀ i,i < l.length → TrH w l[i]!.th (v4 i) (B4 i)) → (∀ i,i < l.length → TrH w l[i]!.el (v5 i) (B5 i)) → B = b :: (List.range l.length).flatMap (fun i => B4 i ++ B5 i) →
  TrH w l (.slice (some ⟨b,o,none⟩) l.length c) B
theorem TrH.one {w:World}{l:List Stmt}{v:Value}{B:List Nat}(h:TrH w l v B):v.oneCell' = true := by cases h <;> rfl
theorem TrH.lt {w:World}{l:List Stmt}{v:Value}{B:List Nat}(h:TrH w l v B):∀ b ∈ B,b < w.heap.size:=by
 induction h with
 | nil => intro b hb;cases hb
 | cons v4 v5 B4 B5 h1 h2 h3 h4 h5 h6 h7 h8 ih6 ih7 =>
  subst h8
  intro b hb
  rcases List.mem_cons.1 hb with rfl|hb
  ·exact cK h3
  ·obtain ⟨i, hi, hb⟩ := List.mem_flatMap.1 hb
   rw [List.mem_range] at hi
   rcases List.mem_append.1 hb with hb|hb
   ·exact ih6 i hi b hb
   ·exact ih7 i hi b hb
theorem TrH.stay {w w':World}{l:List Stmt}{v:Value}{B:List Nat}(h:TrH w l v B):(∀ b ∈ B,w'.heap[b]? = w.heap[b]?) → TrH w' l v B:=by
 induction h with
 | nil => intro _; exact .nil
 | @cons l b o c arr ty B v4 v5 B4 B5 h1 h2 h3 h4 h5 h6 h7 h8 ih6 ih7 =>
  subst h8
  intro hs
  have hb := hs b (List.mem_cons_self)
  have e : ∀ q,w'.cell? ⟨b,q,none⟩ = w.cell? ⟨b,q,none⟩ := fun q => bV hb q
  refine .cons v4 v5 B4 B5 h1 h2 (by rw [hb]; exact h3) h4 (fun i hi => ?_) (fun i hi => ih6 i hi fun q hq => hs q (List.mem_cons_of_mem _ (List.mem_flatMap.2 ⟨i,List.mem_range.2 hi,List.mem_append.2 (.inl hq)⟩))) (fun i hi => ih7 i hi fun q hq => hs q (List.mem_cons_of_mem _ (List.mem_flatMap.2 ⟨i,List.mem_range.2 hi,List.mem_append.2 (.inr hq)⟩))) rfl
  simp only [e]
  exact h5 i hi
theorem RdC_stm {w:World}{bad:Nat → Prop}{ι:Pl}{b:Nat}:∀ (l:List Stmt) (o:Nat),(∀ i,i < l.length → RdC w bad ι (aB l[i]!) b (o + i * 6)) → RdC w bad ι (flat aB l) b o
 | [],_,_ => by simp only [flat,List.flatMap_nil,RdC]
 | s :: l, o, h => by
  have e : flat aB (s :: l) = aB s ++ flat aB l := by simp only [flat,List.flatMap_cons]
  rw [e]
  have h0 := h 0 (by simp)
  refine RdC.append (by simpa using h0) (RdC_stm l _ fun i hi => ?_)
  have hi' := h (i + 1) (by simpa using hi)
  have e6 : (aB s).length = 6 := by rw [e8]; rfl
  rw [e6,show o + 6 + i * 6 = o + (i + 1) * 6 from by omega]
  simpa using hi'
theorem TrH.rd {w:World}{bad:Nat → Prop}{ι:Pl}{l:List Stmt}{v:Value}{B:List Nat}(h:TrH w l v B):(∀ b ∈ B,¬ bad b) → Rd w bad ι (sl aB l) v:=by
 induction h with
 | @nil a c =>
  intro _
  show Rd w bad ι (.imm 0 _) _
  simp only [Rd]
  exact ⟨a,c,rfl,.inl trivial⟩
 | @cons l b o c arr ty B v4 v5 B4 B5 h1 h2 h3 h4 h5 h6 h7 h8 ih6 ih7 =>
  subst h8
  intro hb
  show Rd w bad ι (.imm l.length _) _
  simp only [Rd]
  refine ⟨_,c,rfl,.inr ⟨b,o,h2,rfl,.inr ⟨hb b (List.mem_cons_self),RdC_stm _ _ fun i hi => ?_⟩⟩⟩
  obtain ⟨c0,c1,c2,c3,c4,c5⟩ := h5 i hi
  have r6 := ih6 i hi fun q hq => hb q (List.mem_cons_of_mem _ (List.mem_flatMap.2 ⟨i,List.mem_range.2 hi,List.mem_append.2 (.inl hq)⟩))
  have r7 := ih7 i hi fun q hq => hb q (List.mem_cons_of_mem _ (List.mem_flatMap.2 ⟨i,List.mem_range.2 hi,List.mem_append.2 (.inr hq)⟩))
  rw [e8]
  simp only [RdC]
  exact ⟨⟨_,c0,rfl,by simp only [Rd]⟩,⟨_,c1,rfl,by simp only [Rd]⟩,⟨_,c2,rfl,by simp only [Rd]⟩,⟨_,c3,rfl,by simp only [Rd]⟩,⟨_,c4,(h6 i hi).one,r6⟩,⟨_,c5,(h7 i hi).one,r7⟩,trivial⟩
inductive TrI (w : World) : List Int → Value → List Nat → Prop
 | nil {a : Option Addr} {c : Nat} : TrI w [] (.slice a 0 c) []
 | cons {l : List Int} {b o c : Nat} {arr : Array Value} {ty : TypeId} : 0 < l.length → l.length ≤ c → w.heap[b]? = some (.cells arr ty (0, 0)) → o + c ≤ arr.size → (∀ i, i < l.length → w.cell? ⟨b, o + i, none⟩ = some (.int .i64 l[i]!)) →
  TrI w l (.slice (some ⟨b,o,none⟩) l.length c) [b]
theorem tW {w:World}{bad:Nat → Prop}{ι:Pl}{b:Nat}:∀ (zs:List Int) (o:Nat),(∀ j,j < zs.length → w.cell? ⟨b,o + j,none⟩ = some (.int .i64 zs[j]!)) → RdC w bad ι (flat cI zs) b o
 | [],_,_ => by simp only [flat,List.flatMap_nil,RdC]
 | x :: zs, o, h => by
  have h0 := h 0 (by simp)
  have e : flat cI (x :: zs) = iv x :: flat cI zs := rfl
  rw [e]
  simp only [RdC]
  refine ⟨⟨.int .i64 x,by simpa using h0,rfl,by simp only [Rd]⟩,tW zs (o + 1) fun j hj => ?_⟩
  have := h (j + 1) (by simpa using hj)
  rw [show o + 1 + j = o + (j + 1) from by omega]
  simpa using this
inductive TD
 | ints (l : List Int)
 | stms (l : List Stmt)
def TD.av : TD → AV
 | .ints l => sl cI l
 | .stms l => sl aB l
def TrX (w : World) : TD → Value → List Nat → Prop
 | .ints l,v,B => TrI w l v B
 | .stms l,v,B => TrH w l v B
theorem TrX.one {w:World}{t:TD}{v:Value}{B:List Nat}(h:TrX w t v B):v.oneCell' = true:=by
 cases t with
 | ints l => simp only [TrX] at h;cases h <;> rfl
 | stms l => simp only [TrX] at h;exact h.one
theorem TrX.lt {w:World}{t:TD}{v:Value}{B:List Nat}(h:TrX w t v B):∀ b ∈ B,b < w.heap.size:=by
 cases t with
 | ints l =>
  simp only [TrX] at h
  cases h with
  | nil => intro b hb;cases hb
  | cons h1 h2 h3 h4 h5 => intro b hb;rw [List.mem_singleton] at hb;subst hb;exact cK h3
 | stms l => simp only [TrX] at h;exact h.lt
theorem TrX.stay {w w':World}{t:TD}{v:Value}{B:List Nat}(h:TrX w t v B) (hs:∀ b ∈ B,w'.heap[b]? = w.heap[b]?):TrX w' t v B:=by
 cases t with
 | ints l =>
  simp only [TrX] at h ⊢
  cases h with
  | nil => exact .nil
  | @cons _ b _ _ _ _ h1 h2 h3 h4 h5 =>
   have hb := hs b (by simp)
   exact .cons h1 h2 (by rw [hb]; exact h3) h4 fun i hi => by rw [bV hb]; exact h5 i hi
 | stms l => simp only [TrX] at h ⊢; exact h.stay hs
theorem TrX.rd {w:World}{bad:Nat → Prop}{ι:Pl}{t:TD}{v:Value}{B:List Nat}(h:TrX w t v B) (hb:∀ b ∈ B,¬ bad b):Rd w bad ι t.av v:=by
 cases t with
 | ints l =>
  simp only [TrX] at h
  cases h with
  | @nil a c =>
   show Rd w bad ι (.imm 0 _) _
   simp only [Rd]
   exact ⟨a,c,rfl,.inl trivial⟩
  | @cons _ b o c _ _ h1 h2 h3 h4 h5 =>
   show Rd w bad ι (.imm l.length _) _
   simp only [Rd]
   exact ⟨_,c,rfl,.inr ⟨b,o,h2,rfl,.inr ⟨hb b (by simp),tW _ _ h5⟩⟩⟩
 | stms l => simp only [TrX] at h;exact h.rd hb
abbrev dF := List (TD × Value × List Nat)
def bl (E : dF) : List Nat := E.flatMap fun t => t.2.2
theorem jW (E E2:dF):bl (E ++ E2) = bl E ++ bl E2 := by unfold bl;exact List.flatMap_append
structure TrE (E : dF) (w : World) : Prop where
 t : ∀ t ∈ E,TrX w t.1 t.2.1 t.2.2
 nd : (bl E).Nodup
theorem TrE.lt {E:dF}{w:World}(h:TrE E w):∀ b ∈ bl E,b < w.heap.size := fun b hb => by
 obtain ⟨t,ht,hb⟩ := List.mem_flatMap.1 hb
 exact (h.t t ht).lt b hb
theorem TrE.stay {E:dF}{w w':World}(h:TrE E w) (hs:∀ b ∈ bl E,w'.heap[b]? = w.heap[b]?):TrE E w' :=
 ⟨fun t ht => (h.t t ht).stay fun b hb => hs b (List.mem_flatMap.2 ⟨t,ht,hb⟩),h.nd⟩
theorem TrE.app {E E2:dF}{w:World}(h:TrE E w) (h2:TrE E2 w) (hd:∀ b ∈ bl E,b ∉ bl E2):TrE (E ++ E2) w :=
 ⟨fun t ht => (List.mem_append.1 ht).elim (h.t t) (h2.t t), by
  rw [jW,List.nodup_append]
  exact ⟨h.nd,h2.nd,fun a ha b hb e => hd a ha (e ▸ hb)⟩⟩
def fV (C : Ctx) (wb : World) (E : dF) (hX : ∀ b,C.X b ∨ b ∈ bl E → b < wb.heap.size) : Ctx :=
 { N := C.N,w0 := wb,W0 := fun b => (C.W0 b ∨ C.w0.heap.size ≤ b) ∧ b ∉ bl E,X := fun b => C.X b ∨ b ∈ bl E,ι0 := C.ι0,xlt := hX }
def GsT (C : Ctx) (s : AS) (E : dF) (a : Act) (w : World) : Prop :=
 ∃ (wb : World) (hX : ∀ b,C.X b ∨ b ∈ bl E → b < wb.heap.size),Fr C.W0 C.w0 wb ∧ (∀ b ∈ bl E,C.w0.heap.size ≤ b ∨ C.W0 b) ∧ (∀ b ∈ bl E,¬ C.X b) ∧ TrE E wb ∧ Gs (fV C wb E hX) s a w
theorem GsT.tree {C:Ctx}{s:AS}{E:dF}{a:Act}{w:World}(h:GsT C s E a w):TrE E w:=by
 obtain ⟨wb,hX,f,h1,h2,h3,h0,ι,g,gh⟩ := h
 exact h3.stay fun b hb => gh.fr.block b (h3.lt b hb) (fun q => q.2 hb)
def cQ (P : Program) (N : Nat) (c : Code) (Q : Exit → AS → dF → Prop) (E : dF) (s : AS) : Prop :=
 ∀ (C : Ctx) (a : Act) (w : World),C.N = N → GsT C s E a w → c.wp P (fun e a' w' => ∃ s' E',Q e s' E' ∧ GsT C s' E' a' w') a w
def sW (P : Program) (N : Nat) (all : Array Oper) (Q : Exit → AS → dF → Prop) (E : dF) (l : List Oper) (s : AS) : Prop :=
 ∀ (C : Ctx) (a : Act) (w : World),C.N = N → GsT C s E a w → wpList P all (fun e a' w' => ∃ s' E',Q e s' E' ∧ GsT C s' E' a' w') l a w
def Bd (K : AS → dF → Prop) (Q : Exit → AS → dF → Prop) : Exit → AS → dF → Prop
 | .normal,s,E => K s E
 | e,s,E => Q e s E
def JQ (id : Nat) (Q : Exit → AS → dF → Prop) : Exit → AS → dF → Prop
 | .exit i,s,E => if i = id then Q .normal s E else Q (.exit i) s E
 | e,s,E => Q e s E
section
variable {P : Program} {N : Nat} {Q : Exit → AS → dF → Prop} {s : AS} {E : dF}
theorem awt_lift {c:Code}(h:AW P N c (fun e s' => Q e s' E) s):cQ P N c Q E s:=by
 rintro C a w hN ⟨wb,hX,f,h1,h2,h3,g⟩
 exact wp_mono (h (fV C wb E hX) a w hN g) fun e a' w' ⟨s',q1,q2⟩ => ⟨s',E,q1,wb,hX,f,h1,h2,h3,q2⟩
theorem aR {x y:Code}(h:cQ P N x (Bd (fun s' E' => cQ P N y Q E' s') Q) E s):cQ P N (.seq x y) Q E s:=by
 intro C a w hN g
 refine wp_seq (wp_mono (h C a w hN g) ?_)
 rintro e a' w' ⟨s',ks',h1,h2⟩
 cases e with
 | normal => exact h1 C a' w' hN h2
 | _ => exact ⟨s',ks',h1,h2⟩
theorem gF {x y:Code}{c:Operand}{b:Bool}(hc:ev (lk s.ts) c = some (.v (.bool b))) (h1:b = true → cQ P N x Q E s) (h2:b = false → cQ P N y Q E s):cQ P N (.cond c x y) Q E s:=by
 intro C a w hN gT
 have gT' := gT
 obtain ⟨wb,hX,f,q1,q2,q3,h0,ι,g,gh⟩ := gT'
 have h := b9 g hc
 simp only [Rd] at h
 cases b
 ·exact wp_cond_false h (h2 rfl C a w hN gT)
 ·exact wp_cond_true h (h1 rfl C a w hN gT)
theorem gU {id:Nat}{c:Code}(h:cQ P N c (JQ id Q) E s):cQ P N (.block id c) Q E s:=by
 intro C a w hN g
 refine wp_block (wp_mono (h C a w hN g) ?_)
 rintro e a' w' ⟨s',ks',h1,h2⟩
 cases e with
 | exit i =>
  simp only [Exit.inBlock,JQ] at h1 ⊢
  split
  ·rename_i hi;rw [if_pos hi] at h1;exact ⟨s',ks',h1,h2⟩
  ·rename_i hi;rw [if_neg hi] at h1;exact ⟨s',ks',h1,h2⟩
 | _ => exact ⟨s',ks',h1,h2⟩
theorem iI (h:Q .normal s E):cQ P N .skip Q E s := fun C a w _ g => wp_skip ⟨s,E,h,g⟩
theorem qP {id:Nat}(h:Q (.exit id) s E):cQ P N (.exit id) Q E s := fun C a w _ g => wp_exit ⟨s,E,h,g⟩
theorem GsT.le {C:Ctx}{s s':AS}{E:dF}{a:Act}{w:World}(h:GsT C s E a w) (k:Le s s'):GsT C s' E a w:=by
 obtain ⟨wb,hX,f,h1,h2,h3,g⟩ := h
 exact ⟨wb,hX,f,h1,h2,h3,k _ _ _ g⟩
theorem I8 {c:Code}{s':AS}(h:cQ P N c Q E s') (k:Le s s'):cQ P N c Q E s := fun C a w hN g => h C a w hN (g.le k)
theorem FW {σ:Type}{c:Code}(p:σ → Prop) (I:σ → AS) (J:σ → dF) (μ:σ → Nat) (h0:∃ i,p i ∧ Le s (I i) ∧ J i = E)
  (round : ∀ i,p i → cQ P N c (Bd (fun s' E' => ∃ j,p j ∧ μ j < μ i ∧ Le s' (I j) ∧ J j = E') Q) (J i) (I i)) : cQ P N (.loop c) Q E s := by
 intro C a w hN g
 obtain ⟨i,h1,h2,h3⟩ := h0
 subst h3
 refine wp_loop (fun a w => ∃ i,p i ∧ GsT C (I i) (J i) a w) (fun a w => nF fun n => ∃ i,p i ∧ GsT C (I i) (J i) a w ∧ μ i = n) ⟨i,h1,g.le h2⟩ ?_
 rintro a w ⟨i0,hp0,hg0⟩
 obtain ⟨⟨i,hp,hg,hm⟩,hmin⟩ := gO (S := fun n => ∃ i,p i ∧ GsT C (I i) (J i) a w ∧ μ i = n) ⟨_,i0,hp0,hg0,rfl⟩
 refine wp_mono (round i hp C a w hN hg) ?_
 rintro e a' w' ⟨s',ks',h3,h4⟩
 cases e with
 | normal =>
  obtain ⟨j,q1,q2,q3,rfl⟩ := h3
  have h5 : GsT C (I j) (J j) a' w' := h4.le q3
  refine ⟨⟨j,q1,h5⟩,?_⟩
  have := (gO (S := fun n => ∃ i,p i ∧ GsT C (I i) (J i) a' w' ∧ μ i = n) ⟨_,j,q1,h5,rfl⟩).2 (μ j) ⟨j,q1,h5,rfl⟩
  omega
 | _ => exact ⟨s',ks',h3,h4⟩
theorem bG {id:Nat}{l:List Oper}(h:sW P N l.toArray Q E l s):cQ P N (.region id l.toArray false) Q E s :=
 fun C a w hN g => wp_region_lit (h C a w hN g)
variable {all : Array Oper}
theorem aJ (h:Q .normal s E):sW P N all Q E [] s := fun C a w _ g => wpList_nil ⟨s,E,h,g⟩
theorem aV {l1 l2:List Oper}(h:RW P N all (fun e s' => e = .normal ∧ sW P N all Q E l2 s') .txt l1 s):sW P N all Q E (l1 ++ l2) s:=by
 rintro C a w hN ⟨wb,hX,f,h1,h2,h3,g⟩
 exact j9 (fun e a' w' ⟨s',⟨q1,q2⟩,q3⟩ => ⟨q1,q2 C a' w' hN ⟨wb,hX,f,h1,h2,h3,q3⟩⟩) l1 a w (h (fV C wb E hX) a w hN g)
theorem cV {o:Oper}{rest:List Oper}(h:RW P N all (fun e s' => e = .normal ∧ sW P N all Q E rest s') .txt [o] s):sW P N all Q E (o :: rest) s := aV (l1 := [o]) h
end
theorem Az {E:dF}{t:TD × Value × List Nat}(h:t ∈ E){b:Nat}(hb:b ∈ t.2.2):b ∈ bl E := List.mem_flatMap.2 ⟨t,h,hb⟩
theorem TG.carryC {C C':Ctx}{ι ι':Pl}{T:Nat → Option AV}{H H':Nat → Option (List AV)}{a:Act}{w w':World}(hN:C'.N = C.N) (h:TG C ι T H a w) (k:Carry w (aD C.X ι H) ι w' (aD C'.X ι' H') ι'):TG C' ι' T H' a w' :=
 ⟨h.df,h.sz.trans hN.symm,fun t av ht => let ⟨y,h1,h2⟩ := h.tm t av ht; ⟨y,h1,Rd.carry k _ _ h2⟩⟩
theorem GsT.drop {C:Ctx}{s:AS}{E:dF}{a:Act}{w:World}(h:GsT C s E a w):Gs C s a w:=by
 obtain ⟨wb,hX,f,h1,h2,h3,h0,ι,g,gh⟩ := h
 have hb : ∀ b, aD C.X ι (aP s.hs) b → aD (fV C wb E hX).X ι (aP s.hs) b := by
  rintro b (q|q)
  ·exact .inl (.inl q)
  ·exact .inr q
 have car : Carry w (aD (fV C wb E hX).X ι (aP s.hs)) ι w (aD C.X ι (aP s.hs)) ι := ⟨fun b o x q1 q2 => ⟨fun q => q1 (hb b q),q2⟩,fun _ _ h => h,fun _ => Nat.le_refl _⟩
 have hW : ∀ b,(fV C wb E hX).W0 b → C.W0 b ∨ C.w0.heap.size ≤ b := fun b q => q.1
 refine ⟨h0,ι,TG.carryC (C := fV C wb E hX) (C' := C) rfl g car,⟨fun id cs h => ?_,gh.sep,f.trans2 gh.fr hW,gh.ex,gh.fresh⟩⟩
 rcases gh.obj id cs h with q | ⟨b,β,arr,e,q1,q2,q3,q4,q5,q6⟩
 ·exact .inl q
 ·refine .inr ⟨b, β, arr, e, q1, q2, q3, RdC.carryB car _ _ _ (fun _ _ hx => hx) q4, fun q => q5 (.inl q), ?_⟩
  rcases q6 with q6|q6
  ·exact hW b q6
  ·exact .inr (Nat.le_trans f.size q6)
theorem GsT.grow {C:Ctx}{s:AS}{E E2:dF}{a:Act}{w w':World}(h:GsT C s E a w) (f':Fr (fun _ => False) w w') (ht:TrE E2 w') (hf:∀ b ∈ bl E2,w.heap.size ≤ b):GsT C s (E ++ E2) a w':=by
 have hT := h.tree
 obtain ⟨wb,hX,f,h1,h2,h3,h0,ι,g,gh⟩ := h
 have hW : ∀ b,(fV C wb E hX).W0 b → C.W0 b ∨ C.w0.heap.size ≤ b := fun b q => q.1
 have fw : Fr C.W0 C.w0 w := f.trans2 gh.fr hW
 have fw' : Fr C.W0 C.w0 w' := fw.trans2 f' (fun _ q => q.elim)
 have hblk : ∀ b,b < w.heap.size → w'.heap[b]? = w.heap[b]? := fun b hb => f'.block b hb (fun q => q)
 have hT' : TrE (E ++ E2) w' := (hT.stay fun b hb => hblk b (hT.lt b hb)).app ht fun b hb q => by
  have := hT.lt b hb
  have := hf b q
  omega
 have hX' : ∀ b, C.X b ∨ b ∈ bl (E ++ E2) → b < w'.heap.size := by
  rintro b (q|q)
  ·exact Nat.lt_of_lt_of_le (C.xlt b q) fw'.size
  ·exact hT'.lt b q
 have hbad : ∀ b, b < w.heap.size → aD (fV C w' (E ++ E2) hX').X ι (aP s.hs) b → aD (fV C wb E hX).X ι (aP s.hs) b := by
  rintro b hlt (q|q)
  ·rcases q with q | q
   ·exact .inl (.inl q)
   ·rw [jW, List.mem_append] at q
    rcases q with q|q
    ·exact .inl (.inr q)
    ·have := hf b q;omega
  ·exact .inr q
 have car : Carry w (aD (fV C wb E hX).X ι (aP s.hs)) ι w' (aD (fV C w' (E ++ E2) hX').X ι (aP s.hs)) ι := ⟨fun b o x q1 q2 => ⟨fun q => q1 (hbad b (eV q2) q),by rw [bV (hblk b (eV q2))]; exact q2⟩,fun _ _ h => h,f'.bs⟩
 refine ⟨w',hX',fw',fun b hb => ?_,fun b hb hx => ?_,hT',h0,ι,TG.carryC (C := fV C wb E hX) (C' := fV C w' (E ++ E2) hX') rfl g car,⟨fun id cs h => ?_,gh.sep,Fr.refl _ _,gh.ex,gh.fresh⟩⟩
 ·rw [jW, List.mem_append] at hb
  rcases hb with hb|hb
  ·exact h1 b hb
  ·exact .inl (Nat.le_trans fw.size (hf b hb))
 ·rw [jW, List.mem_append] at hb
  rcases hb with hb|hb
  ·exact h2 b hb hx
  ·have := hf b hb
   have := C.xlt b hx
   have := fw.size
   omega
 ·rcases gh.obj id cs h with q | ⟨b, β, arr, e, q1, q2, q3, q4, q5, q6⟩
  ·exact .inl q
  ·have hlt := cK q2
   have hbl := hblk b hlt
   refine .inr ⟨b,β,arr,e,q1,by rw [hbl]; exact q2,q3,RdC.carryB car _ _ _ (fun o y hy => by rw [bV hbl]; exact hy) q4,?_,.inl ⟨?_,?_⟩⟩
   ·rintro (q | q)
    ·exact q5 (.inl q)
    ·rw [jW, List.mem_append] at q
     rcases q with q|q
     ·exact q5 (.inr q)
     ·have := hf b q;omega
   ·rcases q6 with q6 | q6
    ·exact hW b q6
    ·exact .inr (Nat.le_trans f.size q6)
   ·intro q
    rw [jW,List.mem_append] at q
    rcases q with q|q
    ·exact q5 (.inr q)
    ·have := hf b q;omega
theorem GsT.of {C:Ctx}{s:AS}{a:Act}{w:World}(h:Gs C s a w):GsT C s [] a w:=by
 obtain ⟨h0,ι,g,gh⟩ := h
 have hX : ∀ b, C.X b ∨ b ∈ bl [] → b < w.heap.size := by
  rintro b (q|q)
  ·exact Nat.lt_of_lt_of_le (C.xlt b q) gh.fr.size
  ·cases q
 have hbad : ∀ b, aD (fV C w [] hX).X ι (aP s.hs) b → aD C.X ι (aP s.hs) b := by
  rintro b (q|q)
  ·rcases q with q | q
   ·exact .inl q
   ·cases q
  ·exact .inr q
 have car : Carry w (aD C.X ι (aP s.hs)) ι w (aD (fV C w [] hX).X ι (aP s.hs)) ι := ⟨fun b o x q1 q2 => ⟨fun q => q1 (hbad b q),q2⟩,fun _ _ h => h,fun _ => Nat.le_refl _⟩
 refine ⟨w,hX,gh.fr,fun b hb => (by cases hb),fun b hb => (by cases hb),⟨fun t ht => (by cases ht),List.nodup_nil⟩,h0,ι,TG.carryC (C := C) (C' := fV C w [] hX) rfl g car,⟨fun id cs h => ?_,gh.sep,Fr.refl _ _,gh.ex,gh.fresh⟩⟩
 rcases gh.obj id cs h with q | ⟨b,β,arr,e,q1,q2,q3,q4,q5,q6⟩
 ·exact .inl q
 ·refine .inr ⟨b, β, arr, e, q1, q2, q3, RdC.carryB car _ _ _ (fun _ _ hx => hx) q4, ?_, .inl ⟨q6, fun q => by cases q⟩⟩
  rintro (q|q)
  ·exact q5 q
  ·cases q
def oY (P : Program) (k : FuncId) (args : List AV) (R : AV → dF → Prop) : Prop :=
 ∀ (w : World) (bad : Nat → Prop) (vals : List Value), (∀ b, bad b → b < w.heap.size) → RdV w bad (fun _ => none) args vals →
  Calls P k vals.toArray w (fun e w' => ∃ v r E,e = .returned v ∧ R r E ∧ r.free = true ∧ Rd w' (fun _ => False) (fun _ => none) r v ∧ Fr (fun _ => False) w w' ∧ TrE E w' ∧ ∀ b ∈ bl E,w.heap.size ≤ b)
theorem dR {P:Program}{k:FuncId}{args:List AV}{r:AV}(h:PC P k args (fun x => x = r)) (hf:r.free = true):oY P k args (fun x E => x = r ∧ E = []):=by
 intro w bad vals hb hv
 let C' : Ctx := { N := 0,w0 := w,W0 := fun _ => False,X := bad,ι0 := fun _ => none,xlt := hb }
 have hbad : ∀ b,aD C'.X (fun _ => none) (aP []) b → bad b := fun b q => (by rcases q with q | ⟨id,cs,β,q1,q2⟩ <;> first|exact q|cases q2)
 have g' : HG C' (fun _ => none) (fun j => 0 ≤ j) (aP []) w :=
  ⟨fun id cs h => by simp [aP] at h,fun id id' cs cs' b β β' h => by simp [aP] at h,Fr.refl _ _,fun _ _ h => h,fun _ _ => rfl⟩
 have hcar : Carry w bad (fun _ => none) w (aD C'.X (fun _ => none) (aP [])) (fun _ => none) := ⟨fun b o x h1 h2 => ⟨fun h => h1 (hbad b h),h2⟩,fun _ _ h => h,fun _ => Nat.le_refl _⟩
 refine (h C' _ w _ rfl rfl g' (RdV.carry hcar _ _ hv)).mono ?_
 rintro e w' ⟨v,r',H',ι',rfl,⟨rfl,_⟩,h4,h5⟩
 exact ⟨v,r',[],rfl,⟨rfl,rfl⟩,hf,Rd.free _ _ hf h4,h5.fr,⟨fun t ht => (by cases ht),List.nodup_nil⟩,fun b hb => (by cases hb)⟩
mutual
inductive LdT (E : dF) : AV → AV → Prop
 | pur {v : AV} : v.pur = true → LdT E v v
 | tree {t : TD} {y : Value} {B : List Nat} : (t,y,B) ∈ E → LdT E (.v y) t.av
 | agg {cs cs' : List AV} : LdTL E cs cs' → LdT E (.agg cs) (.agg cs')
inductive LdTL (E : dF) : List AV → List AV → Prop
 | nil : LdTL E [] []
 | cons {c c' : AV} {cs cs' : List AV} : LdT E c c' → LdTL E cs cs' → LdTL E (c :: cs) (c' :: cs')
end
section
variable {E : dF} {w : World} {bad bad2 : Nat → Prop} {ι : Pl}
mutual
theorem LdT.ok (hT:TrE E w) (h2:∀ b,bad2 b → bad b ∧ b ∉ bl E):∀ {v v':AV},LdT E v v' → ∀ {y:Value},Rd w bad ι v y → Rd w bad2 (fun _ => none) v' y
 | _,_,.pur hp,y,k => Rd.pur _ y hp (Rd.carry (⟨fun b o x q1 q2 => ⟨fun q => q1 (h2 b q).1,q2⟩,fun _ _ h => h,fun _ => Nat.le_refl _⟩ : Carry w bad ι w bad2 ι) _ _ k)
 | _, _, .tree (t := t) (y := y0) (B := B) hm, y, k => by
  simp only [Rd] at k
  subst k
  exact (hT.t _ hm).rd fun b hb q => (h2 b q).2 (Az hm hb)
 | _, _, .agg h3, y, k => by
  simp only [Rd] at k ⊢
  obtain ⟨l,q1,q2⟩ := k
  exact ⟨l,q1,LdTL.okL hT h2 h3 q2⟩
theorem LdTL.okL (hT:TrE E w) (h2:∀ b,bad2 b → bad b ∧ b ∉ bl E):∀ {v v':List AV},LdTL E v v' → ∀ {y:List Value},RdL w bad ι v y → RdL w bad2 (fun _ => none) v' y
 | _,_,.nil,y,k => by simpa only [RdL] using k
 | _, _, .cons q1 q2, y, k => by
  simp only [RdL] at k ⊢
  obtain ⟨x,l',rfl,p1,p2,p3⟩ := k
  exact ⟨x,l',rfl,p1,LdT.ok hT h2 q1 p2,LdTL.okL hT h2 q2 p3⟩
end
theorem LdTL.okV (hT:TrE E w) (h2:∀ b,bad2 b → bad b ∧ b ∉ bl E):∀ {v v':List AV},LdTL E v v' → ∀ {y:List Value},RdV w bad ι v y → RdV w bad2 (fun _ => none) v' y
 | _,_,.nil,y,k => by simpa only [RdV] using k
 | _, _, .cons q1 q2, y, k => by
  simp only [RdV] at k ⊢
  obtain ⟨x,l',rfl,p2,p3⟩ := k
  exact ⟨x,l',rfl,LdT.ok hT h2 q1 p2,LdTL.okV hT h2 q2 p3⟩
end
theorem GsT.put {C:Ctx}{ts:List (Nat × AV)}{hs:List (Nat × Option (List AV))}{n:Nat}{z0:Lo}{E:dF}{a:Act}{w:World}(h:GsT C ⟨ts,hs,n,z0⟩ E a w){d:Nat}(hd:d < C.N){r:AV}{v:Value}(hf:r.free = true){bad:Nat → Prop}{ι0:Pl}(hr:Rd w bad ι0 r v) :
  GsT C ⟨(d,r) :: ts,hs,n,z0⟩ E (a.put (some d) v) w := by
 obtain ⟨wb,hX,f,h1,h2,h3,h0,ι,g,gh⟩ := h
 refine ⟨wb,hX,f,h1,h2,h3,h0,ι,?_,gh⟩
 show TG (fV C wb E hX) ι (lk ((d,r) :: ts)) _ _ _
 rw [lL]
 exact g.put (C := fV C wb E hX) hd (Rd.free _ _ hf hr)
section
variable {P : Program} {N : Nat} {Q : Exit → AS → dF → Prop} {E : dF} {all : Array Oper} {rest : List Oper} {ts : List (Nat × AV)} {hs : List (Nat × Option (List AV))} {n : Nat} {z0 : Lo} {d : Nat} {ty : TypeId} {pos : String} {af : Array Edge}
theorem aN {k:FuncId}{args:Array Operand}{tys:Array TypeId}{avs avs2:List AV}{R:AV → dF → Prop}[hc:CaT P k] (ha:evL (lk ts) args.toList = some avs) (hl:LdTL E avs avs2) (h:oY P k avs2 R) (hN:Nat.blt d N = true)
  (kk : ∀ r E2,R r E2 → sW P N all Q (E ++ E2) rest ⟨(d,r) :: ts,hs,n,z0⟩) : sW P N all Q E (⟨some d,.call ⟨.value (.func k),args,tys⟩,ty,pos,af,none⟩ :: rest) ⟨ts,hs,n,z0⟩ := by
 intro C a w hCN gT
 refine wpList_plain rfl (fun K hK => ?_)
 simp only [Oper.wp,eZ hc.pf,Oper.upon]
 have hT := gT.tree
 have gT' := gT
 obtain ⟨wb,hX,f,h1,h2,h3,h0,ι,g,gh⟩ := gT'
 have hv := gK g ha
 refine (h w (fun b => aD (fV C wb E hX).X ι (aP hs) b ∧ b ∉ bl E) _ (fun b q => gh.bad_lt b q.1) (hl.okV hT (fun b q => q) hv)).mono ?_
 rintro e w' ⟨v,r,E2,rfl,hR,hf,hr,hfr,hT2,hfs⟩
 exact hK _ _ (kk r E2 hR C _ _ hCN ((gT.grow hfr hT2 hfs).put (hCN.symm ▸ dS hN) hf hr))
end
def Ar (P : Program) (res : Array ResultVar) (R : AV → dF → Prop) (e : Exit) (s : AS) (E : dF) : Prop :=
 (e = .ret ∨ e = .normal) ∧ ∃ l, iX P (lk s.ts) (aP s.hs) res.toList = some l ∧ ∀ (C : Ctx) (ι : Pl) (F : Nat → Prop) (w : World) (y : Value), HG C ι F (aP s.hs) w → Rd w (aD C.X ι (aP s.hs)) ι (aQ l) y → TrE E w →
  (∀ id cs b β,aP s.hs id = some cs → ι id = some (some (b,β)) → b ∉ bl E) → ∃ r E',R r E' ∧ r.free = true ∧ Rd w (fun _ => False) (fun _ => none) r y ∧ TrE E' w ∧ ∀ b ∈ bl E',b ∈ bl E ∨ ∃ id cs β,aP s.hs id = some cs ∧ ι id = some (some (b,β))
theorem cC {P:Program}{k:FuncId}{fn:Func}{c:Code}{args:List AV}{R:AV → dF → Prop}(hf:P.funcs[k]? = some fn) (hb:fn.body = some c) (hN:args.length ≤ fn.ntmps)
  (h : cQ P fn.ntmps c (Ar P fn.results R) [] ⟨dE 0 args,[],0,⟨0,aX⟩⟩) : oY P k args R := by
 intro w bad vals hbd hr
 refine calls_of_wp hf hb ?_
 let C' : Ctx := { N := fn.ntmps,w0 := w,W0 := fun _ => False,X := bad,ι0 := fun _ => none,xlt := hbd }
 have hlen := RdV.length hr
 have hbad : ∀ b,aD C'.X (fun _ => none) (aP []) b → bad b := fun b q => (by rcases q with q | ⟨id,cs,β,q1,q2⟩ <;> first|exact q|cases q2)
 have hcar : Carry w bad (fun _ => none) w (aD C'.X (fun _ => none) (aP [])) (fun _ => none) := ⟨fun b o x h1 h2 => ⟨fun h => h1 (hbad b h),h2⟩,fun _ _ h => h,fun _ => Nat.le_refl _⟩
 have hr' := RdV.carry hcar _ _ hr
 have g' : HG C' (fun _ => none) (Fn 0 ⟨0, aX⟩) (aP []) w :=
  ⟨fun id cs h => by simp [aP] at h,fun id id' cs cs' b β β' h => by simp [aP] at h,Fr.refl _ _,fun _ _ h => h,fun _ _ => rfl⟩
 have gt : TG C' (fun _ => none) (lk (dE 0 args)) (aP []) { tmps := vals.toArray ++ Array.replicate (fn.ntmps - vals.toArray.size) undef, defers := [] } w := by
  refine ⟨rfl,by simp [C',hlen]; omega,fun t av ht => ?_⟩
  obtain ⟨y,_,h1,h2⟩ := jG hr' ht
  refine ⟨y,?_,h2⟩
  have hlt : t < vals.length := by
   rcases Nat.lt_or_ge t vals.length with q|q
   ·exact q
   ·rw [List.getElem?_eq_none (by simpa using q)] at h1;cases h1
  rw [Array.getElem?_append_left (by simpa using hlt)]
  simpa using h1
 have gs : Gs C' ⟨dE 0 args,[],0,⟨0,aX⟩⟩ { tmps := vals.toArray ++ Array.replicate (fn.ntmps - vals.toArray.size) undef,defers := [] } w := ⟨fun id _ => .inr rfl,_,gt,g'⟩
 refine wp_mono (h C' _ w rfl (GsT.of gs)) ?_
 rintro e a' w' ⟨s1,E,⟨he,l,hres,hfin⟩,gT⟩
 have hT := gT.tree
 have gD := gT.drop
 have hfr : Fr (fun _ => False) w w' := by obtain ⟨_,_,_,gh⟩ := gD;exact gh.fr
 obtain ⟨wb,hX,f,h1,h2,h3,h0,ι,g1,g2⟩ := gT
 obtain ⟨ys,q1,q2⟩ := lI (P := P) g1 g2 hres
 have hres' : (results fn a'.tmps).run P w' = .ok (if h : ys.toArray.size = 1 then ys.toArray[0] else .tuple ys.toArray) w' := by
  have hr1 : results fn a'.tmps = (do let vs ← fn.results.mapM (rE a'); pure (if h : vs.size = 1 then vs[0] else .tuple vs)) := by
   unfold results
   congr 1
  rw [hr1,Array.mapM_eq_mapM_toList,Sem.run_bind,Sem.run_map,q1]
  simp only [Result.andThen_ok,Sem.run_pure]
 obtain ⟨r, E', p1, p2, p3, p4, p5⟩ := hfin (fV C' wb E hX) ι _ w' _ g2 (lD q2) hT (fun id cs b β r1 r2 r3 => by
  rcases g2.obj id cs r1 with ⟨q,_⟩ | ⟨b',β',arr,e',q,q4,q5,q6,q7,q8⟩
  ·rw [q] at r2;cases r2
  ·rw [q] at r2;cases r2;exact q7 (.inr r3))
 have hfs : ∀ b ∈ bl E', w.heap.size ≤ b := fun b hb => by
  rcases p5 b hb with q | ⟨id,cs,β,r1,r2⟩
  ·rcases h1 b q with q | q
   ·exact q
   ·exact q.elim
  ·rcases g2.obj id cs r1 with ⟨q, _⟩ | ⟨b', β', arr, e', q, q4, q5, q6, q7, q8⟩
   ·rw [q] at r2;cases r2
   ·rw [q] at r2; cases r2
    rcases q8 with q8|q8
    ·rcases q8.1 with q | q
     ·exact q.elim
     ·exact q
    ·exact Nat.le_trans f.size q8
 rcases he with rfl|rfl
 ·exact ⟨g1.df,_,hres',_,r,E',rfl,p1,p2,p3,hfr,p4,hfs⟩
 ·exact ⟨g1.df,_,hres',_,r,E',rfl,p1,p2,p3,hfr,p4,hfs⟩
theorem qK {w:World}{bad:Nat → Prop}{ι:Pl}{b:Nat}:∀ (zs:List Int) (o:Nat),RdC w bad ι (flat cI zs) b o → ∀ j,j < zs.length → w.cell? ⟨b,o + j,none⟩ = some (.int .i64 zs[j]!)
 | [],_,_,j,hj => by simp at hj
 | x :: zs, o, h, j, hj => by
  have e : flat cI (x :: zs) = iv x :: flat cI zs := rfl
  rw [e] at h
  simp only [RdC] at h
  obtain ⟨⟨v,h1,_,h3⟩,h4⟩ := h
  simp only [Rd] at h3
  subst h3
  cases j with
  | zero => simpa using h1
  | succ j =>
   have := qK zs (o + 1) h4 j (by simpa using hj)
   rw [show o + (j + 1) = o + 1 + j from by omega]
   simpa using this
abbrev SX := Stmt × (Value × List Nat) × (Value × List Nat)
def cT (x : SX) : List AV := [iv x.1.op,iv x.1.x,iv x.1.y,iv x.1.n,.v x.2.1.1,.v x.2.2.1]
instance : FlT cT 6:=⟨fun _ => rfl⟩
instance : FE cT (fun x => [iv x.1.op,iv x.1.x,iv x.1.y,iv x.1.n,.v x.2.1.1,.v x.2.2.1]):=⟨fun _ => rfl⟩
instance (x : SX) : Pur (cT x):=⟨rfl⟩
def dU (xs : List SX) : dF := xs.flatMap fun x => [(.stms x.1.th,x.2.1.1,x.2.1.2),(.stms x.1.el,x.2.2.1,x.2.2.2)]
theorem bX (xs:List SX) (x:SX):dU (xs ++ [x]) = dU xs ++ [(.stms x.1.th,x.2.1.1,x.2.1.2),(.stms x.1.el,x.2.2.1,x.2.2.2)]:=by
 unfold dU;rw [List.flatMap_append]; simp
theorem Ah (xs:List SX):bl (dU xs) = (List.range xs.length).flatMap fun i => xs[i]!.2.1.2 ++ xs[i]!.2.2.2:=by
 have e : xs = (List.range xs.length).map fun i => xs[i]! := by
  refine List.ext_getElem (by simp) fun i h1 h2 => ?_
  rw [List.getElem_map,List.getElem_range,bF _ _ h1]
 have : bl (dU xs) = xs.flatMap fun x => x.2.1.2 ++ x.2.2.2 := by
  unfold bl dU
  rw [List.flatMap_assoc]
  congr 1
  funext x
  simp
 rw [this]
 conv => lhs;rw [e,List.flatMap_map]
theorem uG {w : World} {bad : Nat → Prop} {ι : Pl} {b : Nat} : ∀ (xs : List SX) (o : Nat), RdC w bad ι (flat cT xs) b o → ∀ i, i < xs.length → w.cell? ⟨b, o + i * 6, none⟩ = some (.int .i64 xs[i]!.1.op) ∧ w.cell? ⟨b, o + i * 6 + 1, none⟩ = some (.int .i64 xs[i]!.1.x) ∧ w.cell? ⟨b, o + i * 6 + 2, none⟩ = some (.int .i64 xs[i]!.1.y) ∧
   w.cell? ⟨b,o + i * 6 + 3,none⟩ = some (.int .i64 xs[i]!.1.n) ∧ w.cell? ⟨b,o + i * 6 + 4,none⟩ = some xs[i]!.2.1.1 ∧ w.cell? ⟨b,o + i * 6 + 5,none⟩ = some xs[i]!.2.2.1
 | [],_,_,j,hj => by simp at hj
 | x :: xs, o, h, j, hj => by
  have e : flat cT (x :: xs) = iv x.1.op :: iv x.1.x :: iv x.1.y :: iv x.1.n :: .v x.2.1.1 :: .v x.2.2.1 :: flat cT xs := rfl
  rw [e] at h
  simp only [RdC] at h
  obtain ⟨⟨a0,p0,_,r0⟩,⟨a1,p1,_,r1⟩,⟨a2,p2,_,r2⟩,⟨a3,p3,_,r3⟩,⟨a4,p4,_,r4⟩,⟨a5,p5,_,r5⟩,h6⟩ := h
  simp only [Rd] at r0 r1 r2 r3 r4 r5
  subst r0 r1 r2 r3 r4 r5
  cases j with
  | zero => exact ⟨by simpa using p0,by simpa using p1,by simpa using p2,by simpa using p3,by simpa using p4,by simpa using p5⟩
  | succ j =>
   have := uG xs (o + 6) (by simpa [Nat.add_assoc] using h6) j (by simpa using hj)
   rw [show o + (j + 1) * 6 = o + 6 + j * 6 from by omega]
   simpa using this
theorem mU {P:Program}{res:Array ResultVar}{R:AV → dF → Prop}{s:AS}{E:dF}{l:List AV}(hr:iX P (lk s.ts) (aP s.hs) res.toList = some l){r:AV}(e:aQ l = r) (hf:r.free = true) (hR:R r E):Ar P res R .ret s E:=by
 subst e
 exact ⟨.inl rfl,l,hr,fun C ι F w y g hy hT hd => ⟨_,E,hR,hf,Rd.free _ _ hf hy,hT,fun b hb => .inl hb⟩⟩
theorem yZ {C:Ctx}{ι:Pl}{F:Nat → Prop}{H:Nat → Option (List AV)}{w:World}(g:HG C ι F H w){i n e:Nat}{y:Value}{cs:List AV}(hy:Rd w (aD C.X ι H) ι (.own i 0 n e) y) (hH:H i = some cs) (hn:0 < n) :
  ∃ (b β c : Nat) (arr : Array Value) (el : TypeId),ι i = some (some (b,β)) ∧ y = .slice (some ⟨b,β,none⟩) n c ∧ n ≤ c ∧ w.heap[b]? = some (.cells arr el (0,0)) ∧ β + c * e ≤ arr.size ∧ RdC w (aD C.X ι H) ι cs b β := by
 simp only [Rd] at hy
 rcases hy with ⟨_,q,_⟩ | ⟨b,β,c,q1,q2,q3,q4⟩
 ·omega
 ·rcases g.obj i cs hH with ⟨q, _⟩ | ⟨b', β', arr, el, p1, p2, p3, p4, p5, p6⟩
  ·rw [q] at q1;cases q1
  ·rw [p1] at q1; cases q1
   exact ⟨_,_,c,arr,el,p1,by rw [Nat.add_zero] at q2;exact q2,q3,p2,by unfold lO at q4;rw [p2] at q4;simpa using q4,p4⟩
theorem tV {w:World}{bad:Nat → Prop}{ι:Pl}{i e:Nat}{y:Value}(hy:Rd w bad ι (.own i 0 0 e) y):∃ a c,y = .slice a 0 c:=by
 simp only [Rd] at hy
 rcases hy with ⟨_,_,a,rfl⟩ | ⟨b,β,c,_,rfl,_⟩
 ·exact ⟨_,_,rfl⟩
 ·exact ⟨_,_,rfl⟩
theorem TrE.one {t:TD}{y:Value}{B:List Nat}{w:World}(h:TrX w t y B) (hn:B.Nodup):TrE [(t,y,B)] w :=
 ⟨fun x hx => by rw [List.mem_singleton] at hx;subst hx;exact h,by simpa [bl] using hn⟩
theorem BK {P:Program}{res:Array ResultVar}{R:AV → dF → Prop}{s:AS}{l:List AV}(hr:iX P (lk s.ts) (aP s.hs) res.toList = some l){i n:Nat}{L:List Int}(e:aQ l = .own i 0 n 1) (hH:aP s.hs i = some (flat cI L)) (hn:n = L.length)
  (hR : ∀ a c B,R (.v (.slice a L.length c)) [(.ints L,.slice a L.length c,B)]) : Ar P res R .ret s [] := by
 subst hn
 refine ⟨.inl rfl,l,hr,fun C ι F w y g hy hT hd => ?_⟩
 rw [e] at hy
 rcases Nat.eq_zero_or_pos L.length with h0|h0
 ·have hL : L = [] := List.eq_nil_of_length_eq_zero h0
  subst hL
  obtain ⟨a,c,rfl⟩ := tV hy
  exact ⟨_,_,hR a c [],rfl,(by simp only [Rd]; rfl),TrE.one (show TrI w [] _ _ from .nil) List.nodup_nil,fun b hb => by simp [bl] at hb⟩
 ·obtain ⟨b, β, c, arr, el, q1, rfl, q3, q4, q5, q6⟩ := yZ g hy hH h0
  refine ⟨_,_,hR (some ⟨b,β,none⟩) c [b],rfl,by simp only [Rd],TrE.one (by simp only [TrX]; exact .cons h0 q3 q4 (by omega) (qK L β q6)) (by simp),fun b' hb => .inr ⟨i,_,β,hH,?_⟩⟩
  simp [bl] at hb
  subst hb;exact q1
theorem AZ {P:Program}{res:Array ResultVar}{R:AV → dF → Prop}{s:AS}{l:List AV}(hr:iX P (lk s.ts) (aP s.hs) res.toList = some l){i n:Nat}{xs:List SX}(e:aQ l = .own i 0 n 6) (hH:aP s.hs i = some (flat cT xs)) (hn:n = xs.length)
  (hR : ∀ a c B,R (.v (.slice a xs.length c)) [(.stms (xs.map (·.1)),.slice a xs.length c,B)]) : Ar P res R .ret s (dU xs) := by
 subst hn
 refine ⟨.inl rfl,l,hr,fun C ι F w y g hy hT hd => ?_⟩
 rw [e] at hy
 rcases Nat.eq_zero_or_pos xs.length with h0|h0
 ·have hL : xs = [] := List.eq_nil_of_length_eq_zero h0
  subst hL
  obtain ⟨a,c,rfl⟩ := tV hy
  exact ⟨_,_,hR a c [],rfl,(by simp only [Rd]; rfl),TrE.one (show TrH w [] _ _ from .nil) List.nodup_nil,fun b hb => by simp [bl] at hb⟩
 ·obtain ⟨b, β, c, arr, el, q1, rfl, q3, q4, q5, q6⟩ := yZ g hy hH h0
  have hl : (xs.map (·.1)).length = xs.length := by simp
  have hx : ∀ i,i < xs.length → (xs.map (·.1))[i]! = xs[i]!.1 := fun i hi => by rw [bF _ _ (by simpa using hi),bF _ _ hi,List.getElem_map]
  have hm : ∀ i, i < xs.length → TrH w xs[i]!.1.th xs[i]!.2.1.1 xs[i]!.2.1.2 ∧ TrH w xs[i]!.1.el xs[i]!.2.2.1 xs[i]!.2.2.2 := fun i hi => by
   have hin := bT xs i hi
   have h4 := hT.t (.stms xs[i]!.1.th,xs[i]!.2.1.1,xs[i]!.2.1.2) (List.mem_flatMap.2 ⟨_,hin,by simp⟩)
   have h5 := hT.t (.stms xs[i]!.1.el,xs[i]!.2.2.1,xs[i]!.2.2.2) (List.mem_flatMap.2 ⟨_,hin,by simp⟩)
   simp only [TrX] at h4 h5
   exact ⟨h4,h5⟩
  have hcell := uG xs β q6
  have htr : TrH w (xs.map (·.1)) (.slice (some ⟨b, β, none⟩) (xs.map (·.1)).length c) (b :: bl (dU xs)) := by
   refine .cons (fun i => xs[i]!.2.1.1) (fun i => xs[i]!.2.2.1) (fun i => xs[i]!.2.1.2) (fun i => xs[i]!.2.2.2) (by rw [hl]; exact h0) (by rw [hl]; exact q3) q4 q5 (fun i hi => ?_) (fun i hi => ?_) (fun i hi => ?_) (by rw [Ah,hl])
   ·rw [hl] at hi;rw [hx i hi]; exact hcell i hi
   ·rw [hl] at hi;rw [hx i hi]; exact (hm i hi).1
   ·rw [hl] at hi;rw [hx i hi]; exact (hm i hi).2
  rw [hl] at htr
  refine ⟨_,_,hR (some ⟨b,β,none⟩) c (b :: bl (dU xs)),rfl,by simp only [Rd],TrE.one (by simp only [TrX]; exact htr) (List.nodup_cons.2 ⟨hd i _ b β hH q1,hT.nd⟩),fun b' hb => ?_⟩
  have hb' : b' = b ∨ b' ∈ bl (dU xs) := by
   unfold bl at hb;simpa [bl] using hb
  rcases hb' with rfl|hb'
  ·exact .inr ⟨i,_,β,hH,q1⟩
  ·exact .inl hb'
theorem oG {P:Program}{N:Nat}{Q:Exit → AS → dF → Prop}{E:dF}{σ:Type}{c:Code}{ts:List (Nat × AV)}{hs:List (Nat × Option (List AV))}{n:Nat}{z0:Lo}(kl:List Nat) (kt:List (Nat × AV)) (js:List Nat) (kh:List (Nat × Option (List AV)))
  (ot : σ → List (Nat × AV)) (oh : σ → List (Nat × Option (List AV))) (J : σ → dF) (p : σ → Prop) (μ : σ → Nat) (i0 : σ) (h0 : p i0) (hJ : J i0 = E) (hk : mG kl ts = kt) (hj : m7 js hs = kh)
  (h1 : mA ts (ot i0)) (h2 : kQ hs (oh i0))
  (round : ∀ i,p i → cQ P N c (Bd (fun s' E' => ∃ j,p j ∧ μ j < μ i ∧ Le s' ⟨ot j ++ kt,oh j ++ kh,n,z0⟩ ∧ J j = E') Q) (J i) ⟨ot i ++ kt,oh i ++ kh,n,z0⟩) :
  cQ P N (.loop c) Q E ⟨ts,hs,n,z0⟩ := by
 subst hk hj
 exact FW p (fun i => ⟨ot i ++ mG kl ts,oh i ++ m7 js hs,n,z0⟩) J μ ⟨i0,h0,Le.lit (kO h1 (lB kl)) (lA h2 (m5 js)) (Nat.le_refl _),hJ⟩ round
def zT : SX := (J6,(.slice none 0 0,[]),(.slice none 0 0,[]))
theorem FV:∀ n:Nat,(List.replicate n ([Value.int .i64 0,.int .i64 0,.int .i64 0,.int .i64 0,.slice none 0 0,.slice none 0 0].map AV.v)).flatten = flat cT (List.replicate n zT)
 | 0 => rfl
 | n + 1 => by
  rw [List.replicate_succ,List.replicate_succ,List.flatten_cons,FV n]; rfl
theorem JK {xs:List SX}{k:Nat}(x:SX) (hk:k < xs.length):iH (flat cT xs) (0 + k * 6) [iv x.1.op,iv x.1.x,iv x.1.y,iv x.1.n,.v x.2.1.1,.v x.2.2.1] = flat cT (xs.set k x) := gH hk rfl
def Kc (P : Program) (k : FuncId) (avs : List AV) (E0 E0' : dF) (k1 : Int) : Prop := ∀ (w : World) (vals : List Value),RdV w (fun _ => False) (fun _ => none) avs vals → TrE E0 w →
 Calls P k vals.toArray w (fun e w' => e = .returned (.int .i64 k1) ∧ Fr (fun b => b ∈ bl E0) w w' ∧ TrE E0' w')
theorem cS (E1 E0 E2:dF):bl (E1 ++ (E0 ++ E2)) = bl E1 ++ (bl E0 ++ bl E2) := by rw [jW,jW]
theorem GsT.mark {C:Ctx}{s:AS}{E1 E0 E0' E2:dF}{a:Act}{w w':World}(h:GsT C s (E1 ++ (E0 ++ E2)) a w) (f':Fr (fun b => b ∈ bl E0) w w') (ht:TrE E0' w') (hb0:bl E0' = bl E0):GsT C s (E1 ++ (E0' ++ E2)) a w':=by
 have hT := h.tree
 obtain ⟨wb,hX,f,h1,h2,h3,h0,ι,g,gh⟩ := h
 have hnd := hT.nd
 rw [cS,List.nodup_append,List.nodup_append] at hnd
 obtain ⟨n1,⟨n2,n3,n4⟩,n5⟩ := hnd
 have hBm : ∀ b,b ∈ bl E0 → b ∈ bl (E1 ++ (E0 ++ E2)) := fun b hb => by rw [cS]; exact List.mem_append.2 (.inr (List.mem_append.2 (.inl hb)))
 have hW : ∀ b,(fV C wb _ hX).W0 b → C.W0 b ∨ C.w0.heap.size ≤ b := fun b q => q.1
 have fw : Fr C.W0 C.w0 w := f.trans2 gh.fr hW
 have fw' : Fr C.W0 C.w0 w' := fw.trans2 f' (fun b q => (h1 b (hBm b q)).elim .inr .inl)
 have hblk : ∀ b,b < w.heap.size → b ∉ bl E0 → w'.heap[b]? = w.heap[b]? := fun b hb hn => f'.block b hb hn
 have hT' : TrE (E1 ++ (E0' ++ E2)) w' := by
  refine ⟨fun x hx => ?_,by rw [cS,hb0]; have := hT.nd;rw [cS] at this;exact this⟩
  rcases List.mem_append.1 hx with hx|hx
  ·have hq := hT.t x (List.mem_append.2 (.inl hx))
   exact hq.stay fun b hb => hblk b (hq.lt b hb) fun hn => n5 b (Az hx hb) b (List.mem_append.2 (.inl hn)) rfl
  ·rcases List.mem_append.1 hx with hx | hx
   ·exact ht.t x hx
   ·have hq := hT.t x (List.mem_append.2 (.inr (List.mem_append.2 (.inr hx))))
    exact hq.stay fun b hb => hblk b (hq.lt b hb) fun hn => n4 b hn b (Az hx hb) rfl
 have heq : ∀ b,b ∈ bl (E1 ++ (E0' ++ E2)) ↔ b ∈ bl (E1 ++ (E0 ++ E2)) := fun b => by rw [cS,cS,hb0]
 have hX' : ∀ b, C.X b ∨ b ∈ bl (E1 ++ (E0' ++ E2)) → b < w'.heap.size := by
  rintro b (q|q)
  ·exact Nat.lt_of_lt_of_le (C.xlt b q) fw'.size
  ·exact hT'.lt b q
 have hbad : ∀ b, aD (fV C w' _ hX').X ι (aP s.hs) b → aD (fV C wb _ hX).X ι (aP s.hs) b := by
  rintro b (q|q)
  ·rcases q with q | q
   ·exact .inl (.inl q)
   ·exact .inl (.inr ((heq b).1 q))
  ·exact .inr q
 have hnB : ∀ b,¬ aD (fV C wb _ hX).X ι (aP s.hs) b → b ∉ bl E0 := fun b hb q => hb (.inl (.inr (hBm b q)))
 have car : Carry w (aD (fV C wb _ hX).X ι (aP s.hs)) ι w' (aD (fV C w' _ hX').X ι (aP s.hs)) ι := ⟨fun b o x q1 q2 => ⟨fun q => q1 (hbad b q),by rw [bV (hblk b (eV q2) (hnB b q1))]; exact q2⟩,fun _ _ h => h,f'.bs⟩
 refine ⟨w',hX',fw',fun b hb => h1 b ((heq b).1 hb),fun b hb => h2 b ((heq b).1 hb),hT',h0,ι,TG.carryC (C := fV C wb _ hX) (C' := fV C w' _ hX') rfl g car,⟨fun id cs h => ?_,gh.sep,Fr.refl _ _,gh.ex,gh.fresh⟩⟩
 rcases gh.obj id cs h with q | ⟨b,β,arr,e,q1,q2,q3,q4,q5,q6⟩
 ·exact .inl q
 ·have hlt := cK q2
  have hb' := hblk b hlt fun q => q5 (.inr (hBm b q))
  refine .inr ⟨b,β,arr,e,q1,by rw [hb']; exact q2,q3,RdC.carryB car _ _ _ (fun o y hy => by rw [bV hb']; exact hy) q4,?_,.inl ⟨?_,?_⟩⟩
  ·rintro (q | q)
   ·exact q5 (.inl q)
   ·exact q5 (.inr ((heq b).1 q))
  ·rcases q6 with q6 | q6
   ·exact hW b q6
   ·exact .inr (Nat.le_trans f.size q6)
  ·exact fun q => q5 (.inr ((heq b).1 q))
theorem TrE.sub {E1 E0 E2:dF}{w:World}(h:TrE (E1 ++ (E0 ++ E2)) w):TrE E0 w:=by
 refine ⟨fun t ht => h.t t (List.mem_append.2 (.inr (List.mem_append.2 (.inl ht)))),?_⟩
 have := h.nd
 rw [cS,List.nodup_append,List.nodup_append] at this
 exact this.2.1.1
theorem RdV.freeV {w:World}{bad bad2:Nat → Prop}{ι ι2:Pl}:∀ (avs:List AV) (vs:List Value),kZ avs = true → RdV w bad ι avs vs → RdV w bad2 ι2 avs vs
 | [],_,_,k => by simpa only [RdV] using k
 | a :: avs, vs, h, k => by
  simp only [kZ,Bool.and_eq_true] at h
  simp only [RdV] at k ⊢
  obtain ⟨x,l',rfl,h1,h2⟩ := k
  exact ⟨x,l',rfl,Rd.free _ _ h.1 h1,RdV.freeV avs l' h.2 h2⟩
section
variable {P : Program} {N : Nat} {Q : Exit → AS → dF → Prop} {all : Array Oper} {rest : List Oper} {ts : List (Nat × AV)} {hs : List (Nat × Option (List AV))} {n : Nat} {z0 : Lo} {d : Nat} {ty : TypeId} {pos : String} {af : Array Edge}
theorem jH {k:FuncId}{args:Array Operand}{tys:Array TypeId}(E1 E0 E2:dF){E E0':dF}{avs:List AV}{k1:Int}[hc:CaT P k] (hE:E = E1 ++ (E0 ++ E2)) (ha:evL (lk ts) args.toList = some avs) (hf:kZ avs = true) (h:Kc P k avs E0 E0' k1) (hb0:bl E0' = bl E0) (hN:Nat.blt d N = true)
  (kk : sW P N all Q (E1 ++ (E0' ++ E2)) rest ⟨(d,iv k1) :: ts,hs,n,z0⟩) : sW P N all Q E (⟨some d,.call ⟨.value (.func k),args,tys⟩,ty,pos,af,none⟩ :: rest) ⟨ts,hs,n,z0⟩ := by
 subst hE
 intro C a w hCN gT
 refine wpList_plain rfl (fun K hK => ?_)
 simp only [Oper.wp,eZ hc.pf,Oper.upon]
 have hT := gT.tree
 have gT' := gT
 obtain ⟨wb,hX,f,h1,h2,h3,h0,ι,g,gh⟩ := gT'
 have hv := gK g ha
 refine (h w _ (RdV.freeV _ _ hf hv) hT.sub).mono ?_
 rintro e w' ⟨rfl,hfr,hT2⟩
 exact hK _ _ (kk C _ _ hCN ((gT.mark hfr hT2 hb0).put (hCN.symm ▸ dS hN) (r := iv k1) (bad := fun _ => False) (ι0 := fun _ => none) rfl (by simp only [Rd])))
end
def TMk (P : Program) (k : FuncId) (t t' : TD) (k0 k1 : Int) : Prop := ∀ (w : World) (y : Value) (B : List Nat),TrX w t y B → B.Nodup →
 Calls P k #[y,.int .i64 k0] w (fun e w' => e = .returned (.int .i64 k1) ∧ Fr (fun b => b ∈ B) w w' ∧ TrX w' t' y B)
theorem TMk.e {P:Program}{k:FuncId}{t t':TD}{k0 k1:Int}(h:TMk P k t t' k0 k1) (y:Value) (B:List Nat):Kc P k [.v y,iv k0] [(t,y,B)] [(t',y,B)] k1:=by
 intro w vals hv hT
 simp only [RdV,Rd] at hv
 obtain ⟨x1,l1,e1,e3,x2,l2,e2,e4,e5⟩ := hv
 rw [e1,e3,e2,e4,e5]
 have hnd : B.Nodup := by simpa [bl] using hT.nd
 refine (h w y B (hT.t _ (List.mem_singleton.2 rfl)) hnd).mono ?_
 rintro e w' ⟨rfl,hfr,hX⟩
 have eb : bl [(t,y,B)] = B := by simp [bl]
 exact ⟨rfl,by rw [eb]; exact hfr,TrE.one hX hnd⟩
theorem Fa {w : World} {bad : Nat → Prop} {ι : Pl} {b : Nat} : ∀ (xs : List SX) (o : Nat), (∀ i, i < xs.length → w.cell? ⟨b, o + i * 6, none⟩ = some (.int .i64 xs[i]!.1.op) ∧ w.cell? ⟨b, o + i * 6 + 1, none⟩ = some (.int .i64 xs[i]!.1.x) ∧ w.cell? ⟨b, o + i * 6 + 2, none⟩ = some (.int .i64 xs[i]!.1.y) ∧
   w.cell? ⟨b,o + i * 6 + 3,none⟩ = some (.int .i64 xs[i]!.1.n) ∧ (w.cell? ⟨b,o + i * 6 + 4,none⟩ = some xs[i]!.2.1.1 ∧ xs[i]!.2.1.1.oneCell' = true) ∧ (w.cell? ⟨b,o + i * 6 + 5,none⟩ = some xs[i]!.2.2.1 ∧ xs[i]!.2.2.1.oneCell' = true)) → RdC w bad ι (flat cT xs) b o
 | [],_,_ => by simp only [flat,List.flatMap_nil,RdC]
 | x :: xs, o, h => by
  have e : flat cT (x :: xs) = iv x.1.op :: iv x.1.x :: iv x.1.y :: iv x.1.n :: .v x.2.1.1 :: .v x.2.2.1 :: flat cT xs := rfl
  rw [e]
  simp only [RdC]
  obtain ⟨p0,p1,p2,p3,⟨p4,q4⟩,⟨p5,q5⟩⟩ := h 0 (by simp)
  refine ⟨⟨_,by simpa using p0,rfl,by simp only [Rd]⟩,⟨_,by simpa using p1,rfl,by simp only [Rd]⟩,⟨_,by simpa using p2,rfl,by simp only [Rd]⟩,⟨_,by simpa using p3,rfl,by simp only [Rd]⟩,⟨_,by simpa using p4,by simpa using q4,by simp only [Rd]⟩,⟨_,by simpa using p5,by simpa using q5,by simp only [Rd]⟩,?_⟩
  have := Fa (w := w) (bad := bad) (ι := ι) (b := b) xs (o + 6) fun i hi => by
   have := h (i + 1) (by simpa using hi)
   rw [show o + 6 + i * 6 = o + (i + 1) * 6 from by omega]
   simpa using this
  simpa [Nat.add_assoc] using this
theorem ER {w:World}{bad:Nat → Prop}{ι:Pl}{xs:List SX}{b β c:Nat}{arr:Array Value}{el:TypeId}(h0:0 < xs.length) (q3:xs.length ≤ c) (q4:w.heap[b]? = some (.cells arr el (0,0))) (q5:β + c * 6 ≤ arr.size) (q6:RdC w bad ι (flat cT xs) b β) (hT:TrE (dU xs) w) :
  TrH w (xs.map (·.1)) (.slice (some ⟨b,β,none⟩) xs.length c) (b :: bl (dU xs)) := by
 have hl : (xs.map (·.1)).length = xs.length := by simp
 have hx : ∀ i,i < xs.length → (xs.map (·.1))[i]! = xs[i]!.1 := fun i hi => by rw [bF _ _ (by simpa using hi),bF _ _ hi,List.getElem_map]
 have hm : ∀ i, i < xs.length → TrH w xs[i]!.1.th xs[i]!.2.1.1 xs[i]!.2.1.2 ∧ TrH w xs[i]!.1.el xs[i]!.2.2.1 xs[i]!.2.2.2 := fun i hi => by
  have hin := bT xs i hi
  have h4 := hT.t (.stms xs[i]!.1.th,xs[i]!.2.1.1,xs[i]!.2.1.2) (List.mem_flatMap.2 ⟨_,hin,by simp⟩)
  have h5 := hT.t (.stms xs[i]!.1.el,xs[i]!.2.2.1,xs[i]!.2.2.2) (List.mem_flatMap.2 ⟨_,hin,by simp⟩)
  simp only [TrX] at h4 h5
  exact ⟨h4,h5⟩
 have hcell := uG xs β q6
 have htr : TrH w (xs.map (·.1)) (.slice (some ⟨b, β, none⟩) (xs.map (·.1)).length c) (b :: bl (dU xs)) := by
  refine .cons (fun i => xs[i]!.2.1.1) (fun i => xs[i]!.2.2.1) (fun i => xs[i]!.2.1.2) (fun i => xs[i]!.2.2.2) (by rw [hl]; exact h0) (by rw [hl]; exact q3) q4 q5 (fun i hi => ?_) (fun i hi => ?_) (fun i hi => ?_) (by rw [Ah,hl])
  ·rw [hl] at hi;rw [hx i hi]; exact hcell i hi
  ·rw [hl] at hi;rw [hx i hi]; exact (hm i hi).1
  ·rw [hl] at hi;rw [hx i hi]; exact (hm i hi).2
 rwa [hl] at htr
theorem TrH.open {w:World}{l:List Stmt}{y:Value}{B:List Nat}(h:TrH w l y B) (hB:B.Nodup) (hn:0 < l.length):∃ (xs:List SX) (b β c:Nat) (arr:Array Value) (el:TypeId),xs.map (·.1) = l ∧ xs.length = l.length ∧ y = .slice (some ⟨b,β,none⟩) l.length c ∧ l.length ≤ c ∧ w.heap[b]? = some (.cells arr el (0,0)) ∧ β + c * 6 ≤ arr.size ∧
  B = b :: bl (dU xs) ∧ TrE (dU xs) w ∧ ∀ (bad : Nat → Prop) (ι : Pl),RdC w bad ι (flat cT xs) b β := by
 cases h with
 | nil => simp at hn
 | @cons _ b o c arr ty _ v4 v5 B4 B5 h1 h2 h3 h4 h5 h6 h7 h8 =>
  have hxl : ((List.range l.length).map fun i => ((l[i]!,(v4 i,B4 i),(v5 i,B5 i)) : SX)).length = l.length := by simp
  have hxg : ∀ i,i < l.length → ((List.range l.length).map fun i => ((l[i]!,(v4 i,B4 i),(v5 i,B5 i)) : SX))[i]! = (l[i]!,(v4 i,B4 i),(v5 i,B5 i)) := fun i hi => by rw [bF _ _ (by simpa using hi)]; simp
  have hbl : bl (dU ((List.range l.length).map fun i => ((l[i]!, (v4 i, B4 i), (v5 i, B5 i)) : SX))) = (List.range l.length).flatMap (fun i => B4 i ++ B5 i) := by
   rw [Ah,hxl]
   have : ∀ (ns : List Nat), (∀ i ∈ ns, i < l.length) → ns.flatMap (fun i => ((List.range l.length).map fun i => ((l[i]!, (v4 i, B4 i), (v5 i, B5 i)) : SX))[i]!.2.1.2 ++ ((List.range l.length).map fun i => ((l[i]!, (v4 i, B4 i), (v5 i, B5 i)) : SX))[i]!.2.2.2) = ns.flatMap (fun i => B4 i ++ B5 i) := by
    intro ns
    induction ns with
    | nil => intro _; rfl
    | cons n ns ih =>
     intro hn
     rw [List.flatMap_cons,List.flatMap_cons,ih fun i hi => hn i (List.mem_cons_of_mem _ hi),hxg n (hn n (List.mem_cons_self))]
   exact this _ fun i hi => List.mem_range.1 hi
  refine ⟨(List.range l.length).map fun i => (l[i]!,(v4 i,B4 i),(v5 i,B5 i)),b,o,c,arr,ty,?_,hxl,rfl,h2,h3,h4,by rw [h8,hbl],⟨fun t ht => ?_,?_⟩,fun bad ι => Fa _ _ fun i hi => ?_⟩
  ·refine List.ext_getElem (by simp) fun i a1 a2 => ?_
   rw [List.getElem_map,List.getElem_map,List.getElem_range]
   exact bF _ _ a2
  ·obtain ⟨x, hx, ht⟩ := List.mem_flatMap.1 ht
   obtain ⟨i,hi,rfl⟩ := List.mem_map.1 hx
   rw [List.mem_range] at hi
   simp only [List.mem_cons,List.not_mem_nil,or_false] at ht
   rcases ht with rfl|rfl
   ·simp only [TrX]; exact h6 i hi
   ·simp only [TrX]; exact h7 i hi
  ·rw [hbl]; rw [h8] at hB;exact (List.nodup_cons.1 hB).2
  ·rw [hxl] at hi
   rw [hxg i hi]
   obtain ⟨c0,c1,c2,c3,c4,c5⟩ := h5 i hi
   exact ⟨c0,c1,c2,c3,⟨c4,(h6 i hi).one⟩,⟨c5,(h7 i hi).one⟩⟩
theorem sF {P:Program}{k:FuncId}{fn:Func}{c:Code}{k0 k1:Int}{n e:Nat}{cs:List AV}{E:dF}{w:World}{b β cc:Nat}{arr:Array Value}{el:TypeId}{R:World → Prop}(hf:P.funcs[k]? = some fn) (hb:fn.body = some c) (hN:2 ≤ fn.ntmps)
  (x5 : w.heap[b]? = some (.cells arr el (0,0))) (x6 : β + cc * e ≤ arr.size) (x4 : n ≤ cc) (hcs : cs.length = n * e) (x9 : ∀ (bad : Nat → Prop) (ι : Pl),RdC w bad ι cs b β) (x8 : TrE E w) (hnb : b ∉ bl E) (Post : AS → dF → Prop)
  (h : cQ P fn.ntmps c (fun x s E' => (x = .ret ∨ x = .normal) ∧ iX P (lk s.ts) (aP s.hs) fn.results.toList = some [iv k1] ∧ Post s E') E ⟨dE 0 [.own 0 0 n e,iv k0],[(0,some cs)],1,⟨1,aX⟩⟩)
  (fin : ∀ (s : AS) (E' : dF) (C : Ctx) (ι : Pl) (F : Nat → Prop) (w' : World),Post s E' → HG C ι F (aP s.hs) w' → ι 0 = some (some (b,β)) → TrE E' w' → lO w b ≤ lO w' b → R w') :
  Calls P k #[.slice (some ⟨b,β,none⟩) n cc,.int .i64 k0] w (fun e w' => e = .returned (.int .i64 k1) ∧ Fr (fun q => q ∈ b :: bl E) w w' ∧ R w') := by
 refine calls_of_wp hf hb ?_
 let C : Ctx := { N := fn.ntmps,w0 := w,W0 := fun q => q ∈ b :: bl E,X := fun _ => False,ι0 := fun id => if id = 0 then some (some (b,β)) else none,xlt := fun _ q => q.elim }
 have hX : ∀ q,C.X q ∨ q ∈ bl E → q < w.heap.size := fun q hq => hq.elim (fun q => q.elim) (x8.lt q)
 have hι : ∀ id c', aP [(0, some cs)] id = some c' → id = 0 ∧ c' = cs := fun id c' hq => by
  rw [b7] at hq
  split at hq
  ·rename_i e;cases hq;exact ⟨e,rfl⟩
  ·simp [aP] at hq
 have gh : HG (fV C w E hX) C.ι0 (Fn 1 ⟨1, aX⟩) (aP [(0, some cs)]) w := by
  refine ⟨fun id c' hq => ?_,fun id id' c1 c2 q β1 β2 h1 h2 _ _ => by rw [(hι _ _ h1).1,(hι _ _ h2).1],Fr.refl _ _,fun _ _ h => h,fun id hid => ?_⟩
  ·obtain ⟨rfl, rfl⟩ := hι id c' hq
   refine .inr ⟨b,β,arr,el,rfl,x5,?_,x9 _ _,?_,.inl ⟨.inl (List.mem_cons_self),hnb⟩⟩
   ·rw [hcs]; have := Nat.mul_le_mul_right e x4;omega
   ·rintro (q | q)
    ·exact q
    ·exact hnb q
  ·have : 1 ≤ id := hid.1
   show (if id = 0 then _ else _) = none
   rw [if_neg (by omega)]
 have hv : RdV w (aD (fV C w E hX).X C.ι0 (aP [(0, some cs)])) C.ι0 [.own 0 0 n e, iv k0] [.slice (some ⟨b, β, none⟩) n cc, .int .i64 k0] := by
  simp only [RdV]
  refine ⟨_,_,rfl,?_,_,_,rfl,by simp only [Rd],rfl⟩
  simp only [Rd]
  exact .inr ⟨b,β,cc,rfl,rfl,x4,by unfold lO;rw [x5]; simpa using x6⟩
 have gt : TG (fV C w E hX) C.ι0 (lk (dE 0 [.own 0 0 n e, iv k0])) (aP [(0, some cs)]) { tmps := [Value.slice (some ⟨b, β, none⟩) n cc, .int .i64 k0].toArray ++ Array.replicate (fn.ntmps - [Value.slice (some ⟨b, β, none⟩) n cc, .int .i64 k0].toArray.size) undef, defers := [] } w := by
  refine ⟨rfl,by simp [fV,C]; omega,fun t av ht => ?_⟩
  obtain ⟨y,_,h1,h2⟩ := jG hv ht
  refine ⟨y,?_,h2⟩
  have hlt : t < [Value.slice (some ⟨b, β, none⟩) n cc, .int .i64 k0].length := by
   rcases Nat.lt_or_ge t [Value.slice (some ⟨b,β,none⟩) n cc,.int .i64 k0].length with q|q
   ·exact q
   ·rw [List.getElem?_eq_none (by simpa using q)] at h1;cases h1
  rw [Array.getElem?_append_left (by simpa using hlt)]
  simpa using h1
 have gT : GsT C ⟨dE 0 [.own 0 0 n e, iv k0], [(0, some cs)], 1, ⟨1, aX⟩⟩ E { tmps := [Value.slice (some ⟨b, β, none⟩) n cc, .int .i64 k0].toArray ++ Array.replicate (fn.ntmps - [Value.slice (some ⟨b, β, none⟩) n cc, .int .i64 k0].toArray.size) undef, defers := [] } w :=
  ⟨w,hX,Fr.refl _ _,fun q hq => .inr (List.mem_cons_of_mem _ hq),fun _ _ q => q,x8,fun id hid => .inr (if_neg (by have : 1 ≤ id := hid;omega)),C.ι0,gt,gh⟩
 refine wp_mono (h C _ w rfl gT) ?_
 rintro x a' w' ⟨s1,E',⟨he,hres,hP⟩,gT'⟩
 have hT' := gT'.tree
 have gD := gT'.drop
 have hfr : Fr (fun q => q ∈ b :: bl E) w w' := by obtain ⟨_,_,_,gh'⟩ := gD;exact gh'.fr
 obtain ⟨wb,hX',f,p1,p2,p3,h0',ι,g1,g2⟩ := gT'
 obtain ⟨ys,q1,q2⟩ := lI (P := P) g1 g2 hres
 have hys : ys = [.int .i64 k1] := by
  simp only [RdV,Rd] at q2
  obtain ⟨_,_,rfl,rfl,rfl⟩ := q2
  rfl
 subst hys
 have hres' : (results fn a'.tmps).run P w' = .ok (.int .i64 k1) w' := by
  have hr1 : results fn a'.tmps = (do let vs ← fn.results.mapM (rE a'); pure (if h : vs.size = 1 then vs[0] else .tuple vs)) := by
   unfold results
   congr 1
  rw [hr1,Array.mapM_eq_mapM_toList,Sem.run_bind,Sem.run_map,q1]
  simp only [Result.andThen_ok,Sem.run_pure]
  rfl
 have hR := fin s1 E' _ ι _ w' hP g2 (g2.ex 0 (some (b,β)) rfl) hT' (hfr.bs b)
 rcases he with rfl|rfl
 ·exact ⟨g1.df,_,hres',rfl,hfr,hR⟩
 ·exact ⟨g1.df,_,hres',rfl,hfr,hR⟩
theorem wB {P:Program}{k:FuncId}{k0 k1:Int}{av:AV}{w:World}{y:Value}(hp:PC P k [av,iv k0] (fun r => r = iv k1)) (hy:Rd w (fun _ => False) (fun _ => none) av y) :
  Calls P k #[y,.int .i64 k0] w (fun e w' => e = .returned (.int .i64 k1) ∧ Fr (fun _ => False) w w') := by
 have hT := dR hp rfl
 refine (hT w (fun _ => False) [y,.int .i64 k0] (fun _ q => q.elim) (by simp only [RdV]; exact ⟨_,_,rfl,hy,_,_,rfl,by simp only [Rd],rfl⟩)).mono ?_
 rintro e w' ⟨v,r,E,rfl,⟨rfl,rfl⟩,_,hr,hfr,_,_⟩
 simp only [Rd] at hr
 subst hr
 exact ⟨rfl,hfr⟩
theorem Fr.wide {W:Nat → Prop}{w w':World}(h:Fr (fun _ => False) w w'):Fr W w w' := ⟨h.os,h.tape,h.output,h.size,fun k hk _ => h.block k hk (fun q => q),h.bs⟩
theorem EI {P:Program}{k:FuncId}{fn:Func}{c:Code}{l l':List Int}{k0 k1:Int}(hf:P.funcs[k]? = some fn) (hb:fn.body = some c) (hN:2 ≤ fn.ntmps) (hl:l'.length = l.length) (h0:l = [] → PC P k [sl cI [],iv k0] (fun r => r = iv k1))
  (h : 0 < l.length → AW P fn.ntmps c (fun x s => (x = .ret ∨ x = .normal) ∧ iX P (lk s.ts) (aP s.hs) fn.results.toList = some [iv k1] ∧ aP s.hs 0 = some (flat cI l')) ⟨dE 0 [.own 0 0 l.length 1,iv k0],[(0,some (flat cI l))],1,⟨1,aX⟩⟩) : TMk P k (.ints l) (.ints l') k0 k1 := by
 intro w y B ht hB
 simp only [TrX] at ht
 cases ht with
 | @nil a cc =>
  have e0 : l' = [] := List.eq_nil_of_length_eq_zero hl
  subst e0
  refine (wB (h0 rfl) (show Rd w _ _ (.imm 0 _) (.slice a 0 cc) by simp only [Rd]; exact ⟨a,cc,rfl,.inl trivial⟩)).mono ?_
  rintro e w' ⟨rfl,hfr⟩
  exact ⟨rfl,hfr.wide,by simp only [TrX]; exact .nil⟩
 | @cons _ b β cc arr el x1 x4 x5 x6 x7 =>
  have h' := h x1
  refine (sF (E := []) (n := l.length) (e := 1) (cs := flat cI l) (R := fun w' => TrX w' (.ints l') (.slice (some ⟨b, β, none⟩) l.length cc) [b]) hf hb hN x5 (by omega) x4 (aK cI (e := 1) l) (fun bad ι => tW l β x7) ⟨fun t ht => (by cases ht), List.nodup_nil⟩ (fun q => by cases q)
   (fun s E' => E' = [] ∧ aP s.hs 0 = some (flat cI l')) (awt_lift fun C a w hN g => wp_mono (h' C a w hN g) fun e a' w' ⟨s',⟨q1,q2,q3⟩,q4⟩ => ⟨s',⟨q1,q2,rfl,q3⟩,q4⟩) ?_).mono ?_
  ·rintro s E' C ι F w' ⟨rfl, r1⟩ g2 hι0 _ hbs
   rcases g2.obj 0 _ r1 with ⟨q,_⟩ | ⟨b',β',arr',el',q,q4,q5,q6,q7,q8⟩
   ·rw [q] at hι0;cases hι0
   ·rw [q] at hι0; cases hι0
    have hsz : β + cc ≤ arr'.size := by
     unfold lO at hbs
     rw [x5,q4] at hbs
     exact Nat.le_trans x6 hbs
    simp only [TrX]
    rw [← hl]
    exact .cons (by omega) (by omega) q4 hsz (qK l' β q6)
  ·rintro e w' ⟨rfl, hfr, hR⟩
   exact ⟨rfl,hfr,hR⟩
theorem Ee {P:Program}{k:FuncId}{fn:Func}{c:Code}{l l':List Stmt}{k0 k1:Int}(hf:P.funcs[k]? = some fn) (hb:fn.body = some c) (hN:2 ≤ fn.ntmps) (h0:l = [] → l' = [] ∧ PC P k [sl aB [],iv k0] (fun r => r = iv k1))
  (h : 0 < l.length → ∀ xs : List SX, xs.map (·.1) = l → cQ P fn.ntmps c (fun x s E' => (x = .ret ∨ x = .normal) ∧ iX P (lk s.ts) (aP s.hs) fn.results.toList = some [iv k1] ∧ ∃ xs', aP s.hs 0 = some (flat cT xs') ∧ E' = dU xs' ∧ xs'.map (·.1) = l' ∧ xs'.map (·.2) = xs.map (·.2)) (dU xs)
   ⟨dE 0 [.own 0 0 l.length 6,iv k0],[(0,some (flat cT xs))],1,⟨1,aX⟩⟩) : TMk P k (.stms l) (.stms l') k0 k1 := by
 intro w y B ht hB
 simp only [TrX] at ht
 rcases Nat.eq_zero_or_pos l.length with hl|hl
 ·have hl0 : l = [] := List.eq_nil_of_length_eq_zero hl
  obtain ⟨e0,hp⟩ := h0 hl0
  subst hl0 e0
  cases ht with
  | @nil a cc =>
   refine (wB hp (show Rd w _ _ (.imm 0 _) (.slice a 0 cc) by simp only [Rd]; exact ⟨a,cc,rfl,.inl trivial⟩)).mono ?_
   rintro e w' ⟨rfl,hfr⟩
   exact ⟨rfl,hfr.wide,by simp only [TrX]; exact .nil⟩
  | cons _ _ _ _ h1 => simp at h1
 ·obtain ⟨xs, b, β, cc, arr, el, x1, x2, rfl, x4, x5, x6, rfl, x8, x9⟩ := ht.open hB hl
  have hnb := List.nodup_cons.1 hB
  refine (sF (E := dU xs) (n := l.length) (e := 6) (cs := flat cT xs) (R := fun w' => TrX w' (.stms l') (.slice (some ⟨b,β,none⟩) l.length cc) (b :: bl (dU xs))) hf hb hN x5 x6 x4 (by rw [aK cT (e := 6),x2]) x9 x8 hnb.1 _ (h hl xs x1) ?_)
  rintro s E' C ι F w' ⟨xs',r1,rfl,r3,r4⟩ g2 hι0 hT' hbs
  have r5 : xs'.length = xs.length := by have := congrArg List.length r4;simpa using this
  have r6 : bl (dU xs') = bl (dU xs) := by
   have : ∀ zs : List SX, bl (dU zs) = (zs.map (·.2)).flatMap fun x => x.1.2 ++ x.2.2 := fun zs => by
    unfold bl dU
    rw [List.flatMap_assoc,List.flatMap_map]
    congr 1
    funext x
    simp
   rw [this,this,r4]
  rcases g2.obj 0 _ r1 with ⟨q,_⟩ | ⟨b',β',arr',el',q,q4,q5,q6,q7,q8⟩
  ·rw [q] at hι0;cases hι0
  ·rw [q] at hι0; cases hι0
   have hsz : β + cc * 6 ≤ arr'.size := by
    unfold lO at hbs
    rw [x5,q4] at hbs
    exact Nat.le_trans x6 hbs
   have := ER (c := cc) (by rw [r5,x2]; exact hl) (by rw [r5,x2]; exact x4) q4 hsz q6 hT'
   rw [r3,r5,x2,r6] at this
   simp only [TrX]
   exact this
theorem GsT.drew {C:Ctx}{s:AS}{E:dF}{a:Act}{w:World}(h:GsT C s E a w):GsT C s E a { w with drawn := w.drawn + 1 }:=by
 obtain ⟨wb,hX,f,h1,h2,h3,h0,ι,g,gh⟩ := h
 obtain ⟨g1,c1⟩ := eG gh
 exact ⟨wb,hX,f,h1,h2,h3,h0,ι,g.carry c1,g1⟩
def yM (P : Program) (N : Nat) (all : Array Oper) (Q : Exit → AS → dF → Prop) (E : dF) (fuel : Nat) (listed : Array Bool) (s : AS) : Prop :=
 ∀ (C : Ctx) (a : Act) (w : World),C.N = N → GsT C s E a w → wpAny P .any all (fun e a' w' => ∃ s' E',Q e s' E' ∧ GsT C s' E' a' w') fuel listed a w
section
variable {P : Program} {N : Nat} {Q : Exit → AS → dF → Prop} {E : dF} {all : Array Oper} {s : AS} {fuel : Nat} {listed : Array Bool}
theorem yB {is:List Nat}(hr:Region.ready .any all listed = is) (hne:is ≠ []) (h:∀ i ∈ is,∃ o,all[i]? = some o ∧ sW P N all (fun e s' E' => e = .normal ∧ yM P N all Q E' fuel (listed.setIfInBounds i true) s') E [o] s):yM P N all Q E (fuel + 1) listed s:=by
 intro C a w hN g
 refine ⟨fun h0 => absurd (hr.symm.trans h0) hne,fun i hi => ?_⟩
 rw [hr] at hi
 obtain ⟨o,ho,hw⟩ := h i hi
 have hq := hw C a w hN g
 have hL : ¬ LetsOut (fun e a' w' => ∃ s' E',(e = Exit.normal ∧ yM P N all Q E' fuel (listed.setIfInBounds i true) s') ∧ GsT C s' E' a' w') := fun ⟨a,w,s',E',⟨q,_⟩,_⟩ => by cases q
 have hk : ∀ a w, wpList P all (fun e a' w' => ∃ s' E', (e = Exit.normal ∧ yM P N all Q E' fuel (listed.setIfInBounds i true) s') ∧ GsT C s' E' a' w') [] a w → wpAny P .any all (fun e a' w' => ∃ s' E', Q e s' E' ∧ GsT C s' E' a' w') fuel (listed.setIfInBounds i true) a w := by
  intro a w hk
  unfold wpList at hk
  obtain ⟨s',E',⟨_,hA⟩,hg⟩ := hk
  exact hA C a w hN hg
 unfold wpOp
 rw [ho]
 dsimp only
 unfold wpList at hq
 split
 ·rename_i hwn
  rw [if_pos hwn] at hq
  rcases hq with hq | ⟨_,hq⟩
  ·exact .inl (D2 hk (fun e a w ⟨s',E',⟨he,_⟩,_⟩ => he) hq)
  ·exact absurd hq hL
 ·rename_i hwn
  rw [if_neg hwn] at hq
  exact hk _ _ hq
theorem dV {i:Nat}{o:Oper}(hr:Region.ready .any all listed = [i]) (ho:all[i]? = some o) (h:sW P N all (fun e s' E' => e = .normal ∧ yM P N all Q E' fuel (listed.setIfInBounds i true) s') E [o] s):yM P N all Q E (fuel + 1) listed s :=
 yB hr (by simp) fun j hj => by rw [List.mem_singleton] at hj;subst hj;exact ⟨o,ho,h⟩
theorem j7 {i i':Nat}{o o':Oper}(hr:Region.ready .any all listed = [i,i']) (ho:all[i]? = some o) (ho':all[i']? = some o') (h:sW P N all (fun e s' E' => e = .normal ∧ yM P N all Q E' fuel (listed.setIfInBounds i true) s') E [o] s)
  (h' : sW P N all (fun e s' E' => e = .normal ∧ yM P N all Q E' fuel (listed.setIfInBounds i' true) s') E [o'] s) : yM P N all Q E (fuel + 1) listed s :=
 yB hr (by simp) fun j hj => by
  simp only [List.mem_cons,List.not_mem_nil,or_false] at hj
  rcases hj with rfl|rfl
  ·exact ⟨o,ho,h⟩
  ·exact ⟨o',ho',h'⟩
theorem eJ (h:Q .normal s E) (hr:Region.ready .any all listed = []):yM P N all Q E fuel listed s:=by
 intro C a w hN g
 cases fuel with
 | zero => exact ⟨hr,s,E,h,g⟩
 | succ n => exact ⟨fun _ => ⟨s,E,h,g⟩,fun i hi => by rw [hr] at hi;cases hi⟩
theorem tO {id:Nat}{l:List Oper}(hm:P.follows .mixedOrders = true) (h:yM P N l.toArray Q E l.length (Array.replicate l.length false) s):cQ P N (.region id l.toArray true) Q E s:=by
 intro C a w hN g
 refine wp_region_any hm ?_
 have := h C a _ hN g.drew
 simpa using this
end
theorem C0 {P:Program}{N:Nat}{Q:Exit → AS → dF → Prop}{E:dF}{all:Array Oper}{rest:List Oper}{s:AS}{ty:TypeId}{pos:String}{af:Array Edge}{dst:Option Tmp}{op:Op}{j e:Nat}{want b:Bool}(hj:(all[j]?).bind (·.dst) = some e) (hb:lk s.ts e = some (.v (.bool b))) (hw:b = want) (h:sW P N all Q E (⟨dst,op,ty,pos,af,none⟩ :: rest) s) :
  sW P N all Q E (⟨dst,op,ty,pos,af,some (j,want)⟩ :: rest) s := by
 subst hw
 intro C a w hN g
 have h' := h C a w hN g
 obtain ⟨wb,hX,f,h1,h2,h3,h0,ι,g,gh⟩ := g
 have hyl : yielded all a.tmps j = some b := by
  obtain ⟨y,hy,hr⟩ := g.tm e _ hb
  simp only [Rd] at hr
  subst hr
  simp [yielded,hj,hy]
 unfold wpList at h' ⊢
 simp only [Region.wanted,hyl,if_true,beq_self_eq_true] at h' ⊢
 exact h'
theorem y8 {P:Program}{k:FuncId}{fn:Func}{c:Code}{avs:List AV}{E0 E0':dF}{k1:Int}(hf:P.funcs[k]? = some fn) (hb:fn.body = some c) (hN:avs.length ≤ fn.ntmps)
  (h : cQ P fn.ntmps c (fun x s E => (x = .ret ∨ x = .normal) ∧ iX P (lk s.ts) (aP s.hs) fn.results.toList = some [iv k1] ∧ E = E0') E0 ⟨dE 0 avs,[],0,⟨0,aX⟩⟩) (hfr : kZ avs = true) : Kc P k avs E0 E0' k1 := by
 intro w vals hv0 x8
 refine calls_of_wp hf hb ?_
 let C : Ctx := { N := fn.ntmps,w0 := w,W0 := fun q => q ∈ bl E0,X := fun _ => False,ι0 := fun _ => none,xlt := fun _ q => q.elim }
 have hX : ∀ q,C.X q ∨ q ∈ bl E0 → q < w.heap.size := fun q hq => hq.elim (fun q => q.elim) (x8.lt q)
 have hlen := RdV.length hv0
 have hv : RdV w (aD (fV C w E0 hX).X (fun _ => none) (aP [])) (fun _ => none) avs vals := RdV.freeV _ _ hfr hv0
 have gh : HG (fV C w E0 hX) (fun _ => none) (Fn 0 ⟨0, aX⟩) (aP []) w :=
  ⟨fun id cs h => by simp [aP] at h,fun id id' cs cs' b β β' h => by simp [aP] at h,Fr.refl _ _,fun _ _ h => h,fun _ _ => rfl⟩
 have gt : TG (fV C w E0 hX) (fun _ => none) (lk (dE 0 avs)) (aP []) { tmps := vals.toArray ++ Array.replicate (fn.ntmps - vals.toArray.size) undef, defers := [] } w := by
  refine ⟨rfl,by simp [fV,C,hlen]; omega,fun t av ht => ?_⟩
  obtain ⟨y,_,h1,h2⟩ := jG hv ht
  refine ⟨y,?_,h2⟩
  have hlt : t < vals.length := by
   rcases Nat.lt_or_ge t vals.length with q|q
   ·exact q
   ·rw [List.getElem?_eq_none (by simpa using q)] at h1;cases h1
  rw [Array.getElem?_append_left (by simpa using hlt)]
  simpa using h1
 have gT : GsT C ⟨dE 0 avs, [], 0, ⟨0, aX⟩⟩ E0 { tmps := vals.toArray ++ Array.replicate (fn.ntmps - vals.toArray.size) undef, defers := [] } w :=
  ⟨w,hX,Fr.refl _ _,fun q hq => .inr hq,fun _ _ q => q,x8,fun id hid => .inr rfl,fun _ => none,gt,gh⟩
 refine wp_mono (h C _ w rfl gT) ?_
 rintro x a' w' ⟨s1,E',⟨he,hres,rfl⟩,gT'⟩
 have hT' := gT'.tree
 have gD := gT'.drop
 have hfr : Fr (fun q => q ∈ bl E0) w w' := by obtain ⟨_,_,_,gh'⟩ := gD;exact gh'.fr
 obtain ⟨wb,hX',f,p1,p2,p3,h0',ι,g1,g2⟩ := gT'
 obtain ⟨ys,q1,q2⟩ := lI (P := P) g1 g2 hres
 have hys : ys = [.int .i64 k1] := by
  simp only [RdV,Rd] at q2
  obtain ⟨_,_,rfl,rfl,rfl⟩ := q2
  rfl
 subst hys
 have hres' : (results fn a'.tmps).run P w' = .ok (.int .i64 k1) w' := by
  have hr1 : results fn a'.tmps = (do let vs ← fn.results.mapM (rE a'); pure (if h : vs.size = 1 then vs[0] else .tuple vs)) := by
   unfold results
   congr 1
  rw [hr1,Array.mapM_eq_mapM_toList,Sem.run_bind,Sem.run_map,q1]
  simp only [Result.andThen_ok,Sem.run_pure]
  rfl
 rcases he with rfl|rfl
 ·exact ⟨g1.df,_,hres',rfl,hfr,hT'⟩
 ·exact ⟨g1.df,_,hres',rfl,hfr,hT'⟩
theorem GC {P:Program}{res:Array ResultVar}{R:AV → dF → Prop}{s:AS}{E:dF}{l:List AV}(hr:iX P (lk s.ts) (aP s.hs) res.toList = some l){r:AV}(e:aQ l = r) (hf:r.free = true) (hR:R r [(.ints [],.slice none 0 0,[])]):Ar P res R .ret s E:=by
 subst e
 exact ⟨.inl rfl,l,hr,fun C ι F w y g hy hT hd => ⟨_,[(.ints [],.slice none 0 0,[])],hR,hf,Rd.free _ _ hf hy,TrE.one (show TrI w [] _ _ from .nil) List.nodup_nil,fun b hb => by simp [bl] at hb⟩⟩
theorem Gu {P:Program}{res:Array ResultVar}{R:AV → dF → Prop}{s:AS}{E:dF}{l:List AV}(hr:iX P (lk s.ts) (aP s.hs) res.toList = some l){r:AV}(e:aQ l = r) (hf:r.free = true){E':dF}(hE:∀ w,TrE E' w) (hB:bl E' = []) (hR:R r E'):Ar P res R .ret s E:=by
 subst e
 exact ⟨.inl rfl,l,hr,fun C ι F w y g hy hT hd => ⟨_,E',hR,hf,Rd.free _ _ hf hy,hE w,fun b hb => by rw [hB] at hb;cases hb⟩⟩
theorem GsT.less {C:Ctx}{s:AS}{E E2:dF}{a:Act}{w:World}(h:GsT C s E a w) (hT2:∀ w,TrE E w → TrE E2 w) (hin:∀ b,b ∈ bl E2 → b ∈ bl E):GsT C s E2 a w:=by
 have hT := h.tree
 obtain ⟨wb,hX,f,h1,h2,h3,h0,ι,g,gh⟩ := h
 have hW : ∀ b,(fV C wb _ hX).W0 b → C.W0 b ∨ C.w0.heap.size ≤ b := fun b q => q.1
 have fw : Fr C.W0 C.w0 w := f.trans2 gh.fr hW
 have hT' : TrE E2 w := hT2 w hT
 have hX' : ∀ b, C.X b ∨ b ∈ bl E2 → b < w.heap.size := by
  rintro b (q|q)
  ·exact Nat.lt_of_lt_of_le (C.xlt b q) fw.size
  ·exact hT'.lt b q
 have hbad : ∀ b, aD (fV C w E2 hX').X ι (aP s.hs) b → aD (fV C wb _ hX).X ι (aP s.hs) b := by
  rintro b (q|q)
  ·rcases q with q | q
   ·exact .inl (.inl q)
   ·exact .inl (.inr (hin b q))
  ·exact .inr q
 have car : Carry w (aD (fV C wb _ hX).X ι (aP s.hs)) ι w (aD (fV C w E2 hX').X ι (aP s.hs)) ι := ⟨fun b o x q1 q2 => ⟨fun q => q1 (hbad b q),q2⟩,fun _ _ h => h,fun _ => Nat.le_refl _⟩
 refine ⟨w,hX',fw,fun b hb => h1 b (hin b hb),fun b hb => h2 b (hin b hb),hT',h0,ι,TG.carryC (C := fV C wb _ hX) (C' := fV C w E2 hX') rfl g car,⟨fun id cs h => ?_,gh.sep,Fr.refl _ _,gh.ex,gh.fresh⟩⟩
 rcases gh.obj id cs h with q | ⟨b,β,arr,e,q1,q2,q3,q4,q5,q6⟩
 ·exact .inl q
 ·refine .inr ⟨b, β, arr, e, q1, q2, q3, RdC.carryB car _ _ _ (fun o y hy => hy) q4, ?_, .inl ⟨?_, ?_⟩⟩
  ·rintro (q | q)
   ·exact q5 (.inl q)
   ·exact q5 (.inr (hin b q))
  ·rcases q6 with q6 | q6
   ·exact hW b q6
   ·exact .inr (Nat.le_trans f.size q6)
  ·exact fun q => q5 (.inr (hin b q))
theorem GsT.opn {C:Ctx}{ts:List (Nat × AV)}{hs:List (Nat × Option (List AV))}{n:Nat}{z0:Lo}{E1 E2:dF}{l:List Stmt}{ad:Option Addr}{c:Nat}{B:List Nat}{a:Act}{w:World}{d:Nat}(hd:lk ts d = some (.v (.slice ad l.length c))) (hl:0 < l.length) (hn:n < aX)
  (h : GsT C ⟨ts,hs,n,z0⟩ (E1 ++ ([(.stms l,.slice ad l.length c,B)] ++ E2)) a w) : ∃ xs : List SX,xs.map (·.1) = l ∧ xs.length = l.length ∧ GsT C ⟨(d,.own n 0 l.length 6) :: ts,(n,some (flat cT xs)) :: hs,n + 1,z0⟩ (E1 ++ (dU xs ++ E2)) a w := by
 have hT := h.tree
 obtain ⟨wb,hX,f,h1,h2,h3,h0,ι,g,gh⟩ := h
 have hB : bl [((.stms l,.slice ad l.length c,B) : TD × Value × List Nat)] = B := by simp [bl]
 have hmem : ((.stms l,.slice ad l.length c,B) : TD × Value × List Nat) ∈ E1 ++ ([(.stms l,.slice ad l.length c,B)] ++ E2) := List.mem_append.2 (.inr (List.mem_append.2 (.inl (List.mem_singleton.2 rfl))))
 have hx := hT.t _ hmem
 simp only [TrX] at hx
 have hnd := hT.nd
 rw [cS,hB,List.nodup_append,List.nodup_append] at hnd
 obtain ⟨n1,⟨n2,n3,n4⟩,n5⟩ := hnd
 obtain ⟨xs,b,β,c',arr,el,x1,x2,x3,x4,x5,x6,x7,x8,x9⟩ := hx.open n2 hl
 cases x3
 subst x7
 have hnx := List.nodup_cons.1 n2
 have heq : ∀ q, q ∈ bl (E1 ++ (dU xs ++ E2)) → q ∈ bl (E1 ++ ([(.stms l, .slice (some ⟨b, β, none⟩) l.length c, b :: bl (dU xs))] ++ E2)) := fun q hq => by
  rw [cS,List.mem_append,List.mem_append] at hq
  rw [cS,hB,List.mem_append,List.mem_append,List.mem_cons]
  rcases hq with hq|hq|hq
  ·exact .inl hq
  ·exact .inr (.inl (.inr hq))
  ·exact .inr (.inr hq)
 have hbE : b ∈ bl (E1 ++ ([(.stms l, .slice (some ⟨b, β, none⟩) l.length c, b :: bl (dU xs))] ++ E2)) := by
  rw [cS,hB,List.mem_append,List.mem_append]; exact .inr (.inl (List.mem_cons_self))
 have hbn : b ∉ bl (E1 ++ (dU xs ++ E2)) := by
  rw [cS,List.mem_append,List.mem_append]
  rintro (q|q|q)
  ·exact n5 b q b (List.mem_append.2 (.inl (List.mem_cons_self))) rfl
  ·exact hnx.1 q
  ·exact n4 b (List.mem_cons_self) b q rfl
 have hW : ∀ b,(fV C wb _ hX).W0 b → C.W0 b ∨ C.w0.heap.size ≤ b := fun b q => q.1
 have fw : Fr C.W0 C.w0 w := f.trans2 gh.fr hW
 have hT' : TrE (E1 ++ (dU xs ++ E2)) w := by
  refine ⟨fun t ht => ?_,?_⟩
  ·rcases List.mem_append.1 ht with ht | ht
   ·exact hT.t t (List.mem_append.2 (.inl ht))
   ·rcases List.mem_append.1 ht with ht | ht
    ·exact x8.t t ht
    ·exact hT.t t (List.mem_append.2 (.inr (List.mem_append.2 (.inr ht))))
  ·rw [cS, List.nodup_append, List.nodup_append]
   refine ⟨n1,⟨x8.nd,n3,fun p hp q hq => n4 p (List.mem_cons_of_mem _ hp) q hq⟩,fun p hp q hq => n5 p hp q ?_⟩
   rcases List.mem_append.1 hq with hq|hq
   ·exact List.mem_append.2 (.inl (List.mem_cons_of_mem _ hq))
   ·exact List.mem_append.2 (.inr hq)
 have hX' : ∀ b, C.X b ∨ b ∈ bl (E1 ++ (dU xs ++ E2)) → b < w.heap.size := by
  rintro b (q|q)
  ·exact Nat.lt_of_lt_of_le (C.xlt b q) fw.size
  ·exact hT'.lt b q
 have hf : ι n = none := gh.fresh n ⟨Nat.le_refl _,.inl hn⟩
 let ι' : Pl := dA ι n (some (some (b,β)))
 have hnn : ι' n = some (some (b,β)) := by simp only [ι',upd_same]
 have hne : ∀ id p, ι id = some p → ι' id = some p := by
  intro id p h
  have : id ≠ n := by rintro rfl;rw [hf] at h;cases h
  simp only [ι',a8 _ _ this,h]
 have hne' : ∀ id,id ≠ n → ι' id = ι id := fun id h => by simp only [ι',a8 _ _ h]
 have hHn : aP ((n,some (flat cT xs)) :: hs) n = some (flat cT xs) := by rw [b7,if_pos rfl]
 have hHo : ∀ id,id ≠ n → aP ((n,some (flat cT xs)) :: hs) id = aP hs id := fun id h => by rw [b7,if_neg h]
 have hobE : ∀ id cs q β', aP hs id = some cs → ι id = some (some (q, β')) → q ∉ bl (E1 ++ ([(.stms l, .slice (some ⟨b, β, none⟩) l.length c, b :: bl (dU xs))] ++ E2)) := fun id cs q β' q1 q2 q3 => by
  rcases gh.obj id cs q1 with ⟨r1,_⟩ | ⟨b',β',arr',e',r1,r2,r3,r4,r5,r6⟩
  ·rw [r1] at q2;cases q2
  ·rw [r1] at q2;cases q2;exact r5 (.inr q3)
 have hbad : ∀ q, aD (fV C w _ hX').X ι' (aP ((n, some (flat cT xs)) :: hs)) q → aD (fV C wb _ hX).X ι (aP hs) q := by
  rintro q (q1 | ⟨id,cs,β',q1,q2⟩)
  ·rcases q1 with q1 | q1
   ·exact .inl (.inl q1)
   ·exact .inl (.inr (heq q q1))
  ·by_cases e : id = n
   ·subst e
    rw [hnn] at q2;cases q2
    exact .inl (.inr hbE)
   ·rw [hHo id e] at q1; rw [hne' id e] at q2
    exact .inr ⟨id,cs,β',q1,q2⟩
 have car : Carry w (aD (fV C wb _ hX).X ι (aP hs)) ι w (aD (fV C w _ hX').X ι' (aP ((n,some (flat cT xs)) :: hs))) ι' := ⟨fun b o x q1 q2 => ⟨fun q => q1 (hbad b q),q2⟩,hne,fun _ => Nat.le_refl _⟩
 refine ⟨xs,x1,x2,w,hX',fw,fun q hq => h1 q (heq q hq),fun q hq => h2 q (heq q hq),hT',h0,ι',⟨g.df,g.sz,fun t av ht => ?_⟩,⟨fun id cs h => ?_,fun id id' cs cs' q β1 β2 r1 r2 r3 r4 => ?_,Fr.refl _ _,fun id p h => hne _ _ (gh.ex _ _ h),fun id h => ?_⟩⟩
 ·rw [show lk (⟨(d, .own n 0 l.length 6) :: ts, (n, some (flat cT xs)) :: hs, n + 1, z0⟩ : AS).ts t = lk ((d, .own n 0 l.length 6) :: ts) t from rfl, iY] at ht
  split at ht
  ·rename_i et
   subst et
   cases ht
   obtain ⟨y,hy,hr⟩ := g.tm t _ hd
   refine ⟨y,hy,?_⟩
   simp only [Rd] at hr ⊢
   exact .inr ⟨b,β,c,hnn,hr,x4,by unfold lO;rw [x5]; simpa using x6⟩
  ·obtain ⟨y, hy, hr⟩ := g.tm t av ht
   exact ⟨y,hy,Rd.carry car _ _ hr⟩
 ·by_cases e : id = n
  ·subst e
   rw [show aP (⟨(d,.own id 0 l.length 6) :: ts,(id,some (flat cT xs)) :: hs,id + 1,z0⟩ : AS).hs id = _ from hHn] at h
   cases h
   refine .inr ⟨b,β,arr,el,hnn,x5,?_,x9 _ _,?_,.inl ⟨(h1 b hbE).symm,hbn⟩⟩
   ·rw [aK cT (e := 6),x2]; have := Nat.mul_le_mul_right 6 x4;omega
   ·rintro (q | q)
    ·exact h2 b hbE q
    ·exact hbn q
  ·have h' : aP hs id = some cs := by rw [← hHo id e]; exact h
   rcases gh.obj id cs h' with ⟨r1,r2⟩ | ⟨b',β',arr',e',r1,r2,r3,r4,r5,r6⟩
   ·exact .inl ⟨hne _ _ r1,r2⟩
   ·refine .inr ⟨b', β', arr', e', hne _ _ r1, r2, r3, RdC.carryB car _ _ _ (fun o y hy => hy) r4, ?_, .inl ⟨?_, ?_⟩⟩
    ·rintro (q | q)
     ·exact r5 (.inl q)
     ·exact r5 (.inr (heq _ q))
    ·rcases r6 with r6 | r6
     ·exact hW _ r6
     ·exact .inr (Nat.le_trans f.size r6)
    ·exact fun q => r5 (.inr (heq _ q))
 ·by_cases e : id = n
  ·by_cases e' : id' = n
   ·rw [e,e']
   ·subst e
    have r2' : aP hs id' = some cs' := by rw [← hHo id' e']; exact r2
    rw [hne' id' e'] at r4
    rw [hnn] at r3;cases r3
    exact absurd hbE (hobE id' cs' _ _ r2' r4)
  ·have r1' : aP hs id = some cs := by rw [← hHo id e]; exact r1
   rw [hne' id e] at r3
   by_cases e' : id' = n
   ·subst e'
    rw [hnn] at r4;cases r4
    exact absurd hbE (hobE id cs _ _ r1' r3)
   ·have r2' : aP hs id' = some cs' := by rw [← hHo id' e']; exact r2
    rw [hne' id' e'] at r4
    exact gh.sep id id' cs cs' q β1 β2 r1' r2' r3 r4
 ·have hid : n + 1 ≤ id := h.1
  show ι' id = none
  rw [hne' id (by omega)]
  exact gh.fresh id ⟨by show n ≤ id;omega,h.2⟩
theorem GsT.cls {C:Ctx}{ts:List (Nat × AV)}{hs:List (Nat × Option (List AV))}{n:Nat}{z0:Lo}{E1 E0 E2:dF}{i m:Nat}{ys:List SX}{a:Act}{w:World}{d:Nat}(hd:lk ts d = some (.own i 0 m 6)) (hH:aP hs i = some (flat cT ys)) (hm:m = ys.length)
  (hT0 : ∀ w,TrE E0 w → TrE (dU ys) w) (hin : ∀ b,b ∈ bl (dU ys) → b ∈ bl E0)
  (h : GsT C ⟨ts,hs,n,z0⟩ (E1 ++ (E0 ++ E2)) a w) : ∃ ad c B,GsT C ⟨(d,.v (.slice ad m c)) :: ts,(i,none) :: hs,n,z0⟩ (E1 ++ ([(.stms (ys.map (·.1)),.slice ad m c,B)] ++ E2)) a w := by
 subst hm
 have hT := h.tree
 have hnd := hT.nd
 rw [cS,List.nodup_append,List.nodup_append] at hnd
 obtain ⟨n1,⟨n2,n3,n4⟩,n5⟩ := hnd
 have hTy : TrE (dU ys) w := hT0 w hT.sub
 obtain ⟨wb,hX,f,h1,h2,h3,h0,ι,g,gh⟩ := h
 obtain ⟨y,hy,hr⟩ := g.tm d _ hd
 have hW : ∀ b,(fV C wb _ hX).W0 b → C.W0 b ∨ C.w0.heap.size ≤ b := fun b q => q.1
 have fw : Fr C.W0 C.w0 w := f.trans2 gh.fr hW
 have hkey : ∃ ad c B, y = .slice ad ys.length c ∧ TrH w (ys.map (·.1)) (.slice ad ys.length c) B ∧ B.Nodup ∧ ∀ b ∈ B, b ∈ bl E0 ∨ ∃ β, ι i = some (some (b, β)) := by
  rcases Nat.eq_zero_or_pos ys.length with hz|hz
  ·have hL : ys = [] := List.eq_nil_of_length_eq_zero hz
   subst hL
   obtain ⟨ad,c,rfl⟩ := tV hr
   exact ⟨ad,c,[],rfl,.nil,List.nodup_nil,fun b hb => by cases hb⟩
  ·obtain ⟨b, β, c, arr, el, q1, rfl, q3, q4, q5, q6⟩ := yZ gh hr hH hz
   refine ⟨_,_,b :: bl (dU ys),rfl,ER hz q3 q4 q5 q6 hTy,List.nodup_cons.2 ⟨fun q => ?_,hTy.nd⟩,fun b' hb => ?_⟩
   ·rcases gh.obj i _ hH with ⟨r1, _⟩ | ⟨b', β', arr', e', r1, r2, r3, r4, r5, r6⟩
    ·rw [r1] at q1;cases q1
    ·rw [r1] at q1; cases q1
     refine r5 (.inr ?_)
     rw [cS,List.mem_append,List.mem_append]; exact .inr (.inl (hin _ q))
   ·rcases List.mem_cons.1 hb with rfl | hb
    ·exact .inr ⟨β,q1⟩
    ·exact .inl (hin _ hb)
 obtain ⟨ad,c,B,rfl,hTr,hBn,hBs⟩ := hkey
 have hobE : ∀ id cs q β', aP hs id = some cs → ι id = some (some (q, β')) → ¬ C.X q ∧ q ∉ bl (E1 ++ (E0 ++ E2)) ∧ q < w.heap.size ∧ (C.W0 q ∨ C.w0.heap.size ≤ q) := fun id cs q β' q1 q2 => by
  rcases gh.obj id cs q1 with ⟨r1,_⟩ | ⟨b',β',arr',e',r1,r2,r3,r4,r5,r6⟩
  ·rw [r1] at q2;cases q2
  ·rw [r1] at q2; cases q2
   exact ⟨fun q => r5 (.inl q), fun q => r5 (.inr q), cK r2, by
    rcases r6 with r6|r6
    ·exact hW _ r6
    ·exact .inr (Nat.le_trans f.size r6)⟩
 have hB : bl [((.stms (ys.map (·.1)),.slice ad ys.length c,B) : TD × Value × List Nat)] = B := by simp [bl]
 have hBf : ∀ b ∈ B,b ∈ bl (E1 ++ (E0 ++ E2)) ∨ ∃ β,ι i = some (some (b,β)) := fun b hb => (hBs b hb).imp (fun q => by rw [cS,List.mem_append,List.mem_append]; exact .inr (.inl q)) id
 have hsp : ∀ q, q ∈ bl (E1 ++ ([(.stms (ys.map (·.1)), .slice ad ys.length c, B)] ++ E2)) → q ∈ bl (E1 ++ (E0 ++ E2)) ∨ ∃ β, ι i = some (some (q, β)) := fun q hq => by
  rw [cS,hB,List.mem_append,List.mem_append] at hq
  rcases hq with hq|hq|hq
  ·exact .inl (by rw [cS,List.mem_append,List.mem_append]; exact .inl hq)
  ·exact hBf q hq
  ·exact .inl (by rw [cS,List.mem_append,List.mem_append]; exact .inr (.inr hq))
 have hT' : TrE (E1 ++ ([(.stms (ys.map (·.1)), .slice ad ys.length c, B)] ++ E2)) w := by
  refine ⟨fun t ht => ?_,?_⟩
  ·rcases List.mem_append.1 ht with ht | ht
   ·exact hT.t t (List.mem_append.2 (.inl ht))
   ·rcases List.mem_append.1 ht with ht | ht
    ·rw [List.mem_singleton] at ht;subst ht;simp only [TrX]; exact hTr
    ·exact hT.t t (List.mem_append.2 (.inr (List.mem_append.2 (.inr ht))))
  ·rw [cS, hB, List.nodup_append, List.nodup_append]
   refine ⟨n1,⟨hBn,n3,fun p hp q hq e => ?_⟩,fun p hp q hq e => ?_⟩
   ·subst e
    rcases hBs p hp with r | ⟨β,r⟩
    ·exact n4 p r p hq rfl
    ·exact (hobE i _ p β hH r).2.1 (by rw [cS,List.mem_append,List.mem_append]; exact .inr (.inr hq))
   ·subst e
    rcases List.mem_append.1 hq with hq|hq
    ·rcases hBs p hq with r | ⟨β, r⟩
     ·exact n5 p hp p (List.mem_append.2 (.inl r)) rfl
     ·exact (hobE i _ p β hH r).2.1 (by rw [cS,List.mem_append,List.mem_append]; exact .inl hp)
    ·exact n5 p hp p (List.mem_append.2 (.inr hq)) rfl
 have hX' : ∀ b, C.X b ∨ b ∈ bl (E1 ++ ([(.stms (ys.map (·.1)), .slice ad ys.length c, B)] ++ E2)) → b < w.heap.size := by
  rintro b (q|q)
  ·exact Nat.lt_of_lt_of_le (C.xlt b q) fw.size
  ·exact hT'.lt b q
 have hHi : ∀ id cs, aP ((i, none) :: hs) id = some cs → id ≠ i ∧ aP hs id = some cs := fun id cs h => by
  rw [b7] at h
  split at h
  ·cases h
  ·rename_i e;exact ⟨e,h⟩
 have hbad : ∀ q, aD (fV C w _ hX').X ι (aP ((i, none) :: hs)) q → aD (fV C wb _ hX).X ι (aP hs) q := by
  rintro q (q1 | ⟨id,cs,β',q1,q2⟩)
  ·rcases q1 with q1 | q1
   ·exact .inl (.inl q1)
   ·rcases hsp q q1 with r | ⟨β, r⟩
    ·exact .inl (.inr r)
    ·exact .inr ⟨i,_,β,hH,r⟩
  ·exact .inr ⟨id,cs,β',(hHi _ _ q1).2,q2⟩
 have car : Carry w (aD (fV C wb _ hX).X ι (aP hs)) ι w (aD (fV C w _ hX').X ι (aP ((i,none) :: hs))) ι := ⟨fun b o x q1 q2 => ⟨fun q => q1 (hbad b q),q2⟩,fun _ _ h => h,fun _ => Nat.le_refl _⟩
 refine ⟨ad,c,B,w,hX',fw,fun q hq => ?_,fun q hq => ?_,hT',h0,ι,⟨g.df,g.sz,fun t av ht => ?_⟩,⟨fun id cs h => ?_,fun id id' cs cs' q β1 β2 r1 r2 r3 r4 => gh.sep id id' cs cs' q β1 β2 (hHi _ _ r1).2 (hHi _ _ r2).2 r3 r4,Fr.refl _ _,gh.ex,gh.fresh⟩⟩
 ·rcases hsp q hq with r | ⟨β, r⟩
  ·exact h1 q r
  ·exact (hobE i _ q β hH r).2.2.2.symm
 ·rcases hsp q hq with r | ⟨β, r⟩
  ·exact h2 q r
  ·exact (hobE i _ q β hH r).1
 ·rw [show lk (⟨(d, .v (.slice ad ys.length c)) :: ts, (i, none) :: hs, n, z0⟩ : AS).ts t = lk ((d, .v (.slice ad ys.length c)) :: ts) t from rfl, iY] at ht
  split at ht
  ·rename_i et
   subst et
   cases ht
   exact ⟨_,hy,by simp only [Rd]⟩
  ·obtain ⟨y, hy, hr⟩ := g.tm t av ht
   exact ⟨y,hy,Rd.carry car _ _ hr⟩
 ·obtain ⟨hid, h'⟩ := hHi id cs h
  rcases gh.obj id cs h' with ⟨r1,r2⟩ | ⟨b',β',arr',e',r1,r2,r3,r4,r5,r6⟩
  ·exact .inl ⟨r1,r2⟩
  ·have hnb : b' ∉ bl (E1 ++ ([(.stms (ys.map (·.1)), .slice ad ys.length c, B)] ++ E2)) := fun q => by
    rcases hsp b' q with r | ⟨β,r⟩
    ·exact r5 (.inr r)
    ·exact hid (gh.sep id i _ _ b' β' β h' hH r1 r)
   refine .inr ⟨b',β',arr',e',r1,r2,r3,RdC.carryB car _ _ _ (fun o y hy => hy) r4,?_,.inl ⟨?_,hnb⟩⟩
   ·rintro (q | q)
    ·exact r5 (.inl q)
    ·exact hnb q
   ·rcases r6 with r6 | r6
    ·exact hW _ r6
    ·exact .inr (Nat.le_trans f.size r6)
section
variable {P : Program} {N : Nat} {Q : Exit → AS → dF → Prop} {E E2 : dF} {all : Array Oper} {rest : List Oper} {s : AS}
variable {ts : List (Nat × AV)} {hs : List (Nat × Option (List AV))} {n : Nat} {z0 : Lo}
theorem HN (E1 E2:dF){l:List Stmt}{ad:Option Addr}{c:Nat}{B:List Nat}(d:Nat) (hE:E = E1 ++ ([(.stms l,.slice ad l.length c,B)] ++ E2)) (hd:lk ts d = some (.v (.slice ad l.length c))) (hl:0 < l.length) (hn:n < aX)
  (h : ∀ xs : List SX,xs.map (·.1) = l → xs.length = l.length → sW P N all Q (E1 ++ (dU xs ++ E2)) rest ⟨(d,.own n 0 l.length 6) :: ts,(n,some (flat cT xs)) :: hs,n + 1,z0⟩) : sW P N all Q E rest ⟨ts,hs,n,z0⟩ := by
 subst hE
 intro C a w hN g
 obtain ⟨xs,h1,h2,g2⟩ := g.opn hd hl hn
 exact h xs h1 h2 C a w hN g2
theorem Hr (E1 E0 E2:dF){i m:Nat}{ys:List SX}(d:Nat) (hE:E = E1 ++ (E0 ++ E2)) (hd:lk ts d = some (.own i 0 m 6)) (hH:aP hs i = some (flat cT ys)) (hm:m = ys.length) (hT0:∀ w,TrE E0 w → TrE (dU ys) w) (hin:∀ b,b ∈ bl (dU ys) → b ∈ bl E0)
  (h : ∀ ad c B,sW P N all Q (E1 ++ ([(.stms (ys.map (·.1)),.slice ad m c,B)] ++ E2)) rest ⟨(d,.v (.slice ad m c)) :: ts,(i,none) :: hs,n,z0⟩) : sW P N all Q E rest ⟨ts,hs,n,z0⟩ := by
 subst hE
 intro C a w hN g
 obtain ⟨ad,c,B,g2⟩ := g.cls hd hH hm hT0 hin
 exact h ad c B C a w hN g2
end
section
variable {P : Program} {N : Nat} {Q : Exit → AS → dF → Prop} {E : dF} {all : Array Oper} {s : AS} {fuel : Nat} {listed : Array Bool}
theorem rw_post {l:List Oper}{K K':AS → Prop}(h:RW P N all (fun e s' => e = .normal ∧ K s') .txt l s) (k:∀ s',K s' → K' s'):RW P N all (fun e s' => e = .normal ∧ K' s') .txt l s:=by
 intro C a w hN g
 have := j9 (P := P) (all := all) (Q2 := fun e a' w' => ∃ s',(e = .normal ∧ K' s') ∧ Gs C s' a' w') (l2 := []) (fun e a' w' ⟨s',⟨h1,h2⟩,h3⟩ => ⟨h1,wpList_nil ⟨s',⟨rfl,k _ h2⟩,h3⟩⟩) l a w (h C a w hN g)
 rwa [List.append_nil] at this
theorem aS {i:Nat}{o:Oper}(hr:Region.ready .any all listed = [i]) (ho:all[i]? = some o) (h:RW P N all (fun e s' => e = .normal ∧ yM P N all Q E fuel (listed.setIfInBounds i true) s') .txt [o] s):yM P N all Q E (fuel + 1) listed s :=
 dV hr ho (aV (l1 := [o]) (l2 := []) (rw_post h fun s' h2 => aJ ⟨rfl,h2⟩))
theorem kC {i i':Nat}{o o':Oper}(hr:Region.ready .any all listed = [i,i']) (ho:all[i]? = some o) (ho':all[i']? = some o') (h:RW P N all (fun e s' => e = .normal ∧ yM P N all Q E fuel (listed.setIfInBounds i true) s') .txt [o] s)
  (h' : RW P N all (fun e s' => e = .normal ∧ yM P N all Q E fuel (listed.setIfInBounds i' true) s') .txt [o'] s) : yM P N all Q E (fuel + 1) listed s :=
 j7 hr ho ho' (aV (l1 := [o]) (l2 := []) (rw_post h fun s' h2 => aJ ⟨rfl,h2⟩)) (aV (l1 := [o']) (l2 := []) (rw_post h' fun s' h2 => aJ ⟨rfl,h2⟩))
theorem qU {σ:Type}{c1 c2:Code}{ts:List (Nat × AV)}{hs:List (Nat × Option (List AV))}{n:Nat}{z0:Lo}(kl:List Nat) (kt:List (Nat × AV)) (js:List Nat) (kh:List (Nat × Option (List AV))) (n':Nat) (ot:σ → List (Nat × AV)) (oh:σ → List (Nat × Option (List AV))) (J:σ → dF) (hk:mG kl ts = kt) (hj:m7 js hs = kh)
  (h1 : cQ P N c1 (Bd (fun s' E' => ∃ x,Le s' ⟨ot x ++ kt,oh x ++ kh,n',z0⟩ ∧ E' = J x) Q) E ⟨ts,hs,n,z0⟩)
  (h2 : ∀ x,cQ P N c2 Q (J x) ⟨ot x ++ kt,oh x ++ kh,n',z0⟩) : cQ P N (.seq c1 c2) Q E ⟨ts,hs,n,z0⟩ := by
 refine aR ?_
 intro C a w hN g
 refine wp_mono (h1 C a w hN g) ?_
 rintro e a' w' ⟨s',E',q1,q2⟩
 cases e with
 | normal =>
  obtain ⟨x,q3,rfl⟩ := q1
  exact ⟨s',_,I8 (h2 x) q3,q2⟩
 | _ => exact ⟨s',E',q1,q2⟩
end
theorem lX {ts ts':List (Nat × AV)}{hs hs':List (Nat × Option (List AV))}{n n':Nat}{z0:Lo}(h1:mA ts ts' := by repeat' (first|exact trivial | refine And.intro rfl ?_ | fail)) (h2:kQ hs hs' := by repeat' (first|exact trivial | refine And.intro (.inr rfl) ?_ | fail)) (h3:n ≤ n' := by decide):Le ⟨ts,hs,n,z0⟩ ⟨ts',hs',n',z0⟩ := Le.lit h1 h2 h3
theorem JW {xs:List SX}{m:Nat}(x:SX) (hm:m = xs.length):((flat cT xs).drop 0).take (m * 6) ++ [iv x.1.op,iv x.1.x,iv x.1.y,iv x.1.n,.v x.2.1.1,.v x.2.2.1] = flat cT (xs ++ [x]) := iJ hm rfl
def rJ (k : Int) (n : Nat) : List Int := (List.range n).map fun (i : Nat) => k + (i : Int)
theorem nH (k:Int) (n:Nat):(rJ k n).length = n := by simp [rJ]
theorem D8 (k:Int) (n:Nat):rJ k (n + 1) = rJ k n ++ [k + (n:Int)] := by simp [rJ,List.range_succ]
mutual
def FY : Int → Stmt → Stmt
 | k,.mk _ _ _ _ th el => .mk k (k + 1) (k + 2) (k + 3) (iO (k + 4) th) (iO (k + 4 + 4 * (aI th : Nat)) el)
def iO : Int → List Stmt → List Stmt
 | _,[] => []
 | k,s :: l => FY k s :: iO (k + 4 * (cP s : Nat)) l
end
theorem uF (k:Int) (s:Stmt):FY k s = .mk k (k + 1) (k + 2) (k + 3) (iO (k + 4) s.th) (iO (k + 4 + 4 * (aI s.th:Nat)) s.el):=by
 cases s;simp only [FY]; rfl
theorem Bt:∀ (l:List Stmt) (k:Int),(iO k l).length = l.length
 | [],_ => by simp [iO]
 | s :: l,k => by simp [iO,Bt l]
theorem xO:∀ (l:List Stmt) (s:Stmt) (k:Int),iO k (l ++ [s]) = iO k l ++ [FY (k + 4 * (aI l:Nat)) s]
 | [],s,k => by simp [iO,aI]
 | a :: l, s, k => by
  have := xO l s (k + 4 * (cP a : Nat))
  simp only [List.cons_append,iO,aI,this]
  rw [show k + 4 * ((cP a : Nat) : Int) + 4 * ((aI l : Nat) : Int) = k + 4 * ((cP a + aI l : Nat) : Int) by omega]
theorem kK {l:List Stmt}{k:Nat}(hk:k < l.length):aI (l.take (k + 1)) = aI (l.take k) + cP l[k]!:=by
 have e : l.take (k + 1) = l.take k ++ [l[k]!] := by rw [bF _ _ hk,List.take_succ_eq_append_getElem hk]
 rw [e,dG]; simp [aI]
theorem rP {l:List Stmt}{j:Nat}(hj:j < l.length) (k:Int):iO k (l.take (j + 1)) = iO k (l.take j) ++ [FY (k + 4 * (aI (l.take j):Nat)) l[j]!]:=by
 have e : l.take (j + 1) = l.take j ++ [l[j]!] := by rw [bF _ _ hj,List.take_succ_eq_append_getElem hj]
 rw [e,xO]
end Go.AL
