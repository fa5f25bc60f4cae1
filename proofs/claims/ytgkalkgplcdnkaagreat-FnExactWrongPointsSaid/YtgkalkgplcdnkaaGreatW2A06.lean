/-
 A part of the proofs over this program: rules and contracts of its functions (the rules).
-/
import Derived.Test.YtgkalkgplcdnkaaGreatW2A05
import Derived.MapKept
import Derived.Orders
import Derived.Sort.Grow
import Derived.StillTail
set_option linter.unusedVariables false
set_option linter.unusedSimpArgs false
namespace Go.AL
open Go.RowKit
section
variable {ts : List Int} {pts : List Pnt} {a : Nat} {s : Mc}
theorem wY {f:Flows ts pts}{i:Iss}(ha:a < pts.length) (h:i ∈ IA ts pts f.Aa f.Am f.Al f.Af f.Ap a):i ∈ f.iss := List.mem_flatMap.2 ⟨a,List.mem_range.2 ha,h⟩
theorem F4 {x:Pnt}{v:Nat}:(Hf x).testBit v = decide (aU x = (v:Int)):=by
 unfold Hf
 split
 ·rw [Nat.testBit_two_pow,decide_eq_decide]; omega
 ·rw [Nat.zero_testBit]; exact (decide_eq_false (by omega)).symm
theorem G1 (w:WG ts pts) (f:Flows ts pts){L:Nat}(ha:a < pts.length) (h:Cf ts pts a L):(⟨a,if pts[L]!.op = 5 then 3 else 2,L⟩:Iss) ∈ f.iss:=by
 obtain ⟨v,u,wr,hk,hA,hf,hp,hy,hw⟩ := h
 obtain ⟨hl,hln⟩ := B8 hp
 dsimp only at hl hln
 obtain ⟨_,hvl,_⟩ := CZ w hf
 dsimp only at hvl
 have htl := w.tl
 have hpl := w.pl
 have hyw := w.y L hl
 have hx := w.x a ha
 have hya := w.y a ha
 refine wY ha (List.mem_append_right _ (List.mem_map.2 ⟨(L : Int),eC.2 ⟨L,by omega,?_,rfl⟩,by rw [Int.toNat_natCast]⟩))
 rw [C1 w f ha hl hln,Bool.and_eq_true,Bool.and_eq_true]
 refine ⟨List.any_eq_true.2 ?_,?_,(f.gp.2 a ha L).2 hp⟩
 ·have near : ∀ c : Acc, c.var = (u : Int) → c.write = wr → wC pts L c = true := fun c h1 h2 => by
   unfold wC
   rw [h1,h2,hy,decide_eq_true rfl,Bool.true_and]
   rcases hw with h|h
   ·rw [h]; rfl
   ·rw [decide_eq_true h]; simp
  unfold AI
  rcases hA with ⟨h,e,e2⟩ | ⟨h,e,e2⟩ | ⟨h,e,e2⟩ | ⟨h,ht,e,e2⟩ | ⟨h,ht,hm,e2⟩
  ·exact ⟨⟨pts[a]!.y,false⟩,List.mem_append_left _ (by rw [if_pos h]; simp),near _ e e2.symm⟩
  ·exact ⟨⟨pts[a]!.y,true⟩,List.mem_append_left _ (by rw [if_neg (by omega),if_pos h]; simp),near _ e e2.symm⟩
  ·exact ⟨⟨pts[a]!.x,true⟩,List.mem_append_left _ (by rw [if_neg (by omega),if_neg (by omega),if_pos h]; simp),near _ e e2.symm⟩
  ·refine ⟨⟨pts[a]!.y, true⟩, List.mem_append_left _ ?_, near _ e e2.symm⟩
   rw [if_neg (by omega),if_neg (by omega),if_neg (by omega),if_pos ⟨h,by rw [e,Int.toNat_natCast]; exact ht⟩]; simp
  ·refine ⟨⟨aU pts[a]!, true⟩, List.mem_append_right _ ?_, near _ h e2.symm⟩
   rw [if_pos ⟨by omega,by rw [h,Int.toNat_natCast]; exact ht,by rw [h,Int.toNat_natCast]; exact (f.gm.2 a ha u).2 hm⟩]; simp
 ·unfold Ek
  rw [jG]
  refine .inr ⟨(v : Int),eC.2 ⟨v,by omega,?_,rfl⟩,?_⟩
  ·rw [mW, (f.gl.2 a ha v).2 hk.1, Bool.true_and, Nat.testBit_or, gB, F4, decide_eq_false hk.2.1]
   have : decide (aV ts pts[a]! v ∈ ([2] : List Int)) = false := decide_eq_false (by simpa using hk.2.2)
   rw [this]; simp
  ·rw [Int.toNat_natCast, zQ f.gf.1 ha (by omega)]
   exact (f.gf.2 a v ha (by omega) L).2 hf
theorem Ep (w:WG ts pts) (f:Flows ts pts) (ha:a < pts.length) (V:Vs ts pts a s) (h:bK ts s pts[a]! = true):∃ v:Nat,(⟨a,1,v⟩:Iss) ∈ f.iss:=by
 obtain ⟨v,hv,hu,hf⟩ := oB h
 have htl := w.tl
 refine ⟨v,wY ha (List.mem_append_left _ (List.mem_map.2 ⟨(v : Int),eC.2 ⟨v,by omega,?_,rfl⟩,rfl⟩))⟩
 rw [mW,gB,decide_eq_true hv,Bool.true_and,Bool.and_eq_true]
 refine ⟨decide_eq_true (by have := wE ts pts[a]! v;simp only [List.mem_cons,List.not_mem_nil,or_false]; omega),?_⟩
 have := f.ga.2 a ha v
 cases q : f.Aa[a]!.testBit v with
 | false => rfl
 | true => exact absurd (V.u v hv hf) ((this.1 q).2)
theorem A6 (w:WG ts pts) (A:WA ts pts) (cs:List Int) (n:Nat):(cQ ts pts cs n).2.1 = 0 ∨ (cQ ts pts cs n).2.1 = 1 ∨ (cQ ts pts cs n).2.1 = 2 ∨ (cQ ts pts cs n).2.1 = 3 ∨ (cQ ts pts cs n).2.1 = 4:=by
 have h := y6 w A (Vs ts pts) (Vs.step w A) n 0 cs (mc0 ts.length) 0 w.p0 Vs.start
 change Gg ts pts (Vs ts pts) (cQ ts pts cs n) at h
 rcases h with h | ⟨s',h0,hI,⟨h3,_⟩ | ⟨_,h4,_,h5⟩⟩
 ·exact .inr (.inl h)
 ·exact .inr (.inr (.inl h3))
 ·rw [h5]
  by_cases q : pts[(cQ ts pts cs n).2.2]!.op = 11
  ·rw [oR q]
   rcases kB ts ts.length 0 s' with e|e|e <;> (rw [e]; simp)
  ·rcases BQ (ts := ts) (s := s') q with e | e | e | e
   ·exact absurd e h4
   all_goals (rw [e]; simp)
theorem ED (w:WG ts pts) (A:WA ts pts) (f:Flows ts pts) (cs:List Int) (n:Nat) (hn:n ≤ 197) (h:(cQ ts pts cs n).2.1 ≠ 0 ∧ (cQ ts pts cs n).2.1 ≠ 1) :
  ∃ (c : Nat) (i : Iss),i ∈ f.iss ∧ i.point = (c : Int) ∧ c < pts.length ∧ ((cQ ts pts cs n).2.1 = 2 ∧ c = (cQ ts pts cs n).2.2 ∨ (cQ ts pts cs n).2.1 ≠ 2 ∧ i.kind ≠ 1 ∧ Rt pts c (cQ ts pts cs n).2.2) := by
 by_cases h2 : (cQ ts pts cs n).2.1 = 2
 ·have ho := y6 w A (Vs ts pts) (Vs.step w A) n 0 cs (mc0 ts.length) 0 w.p0 Vs.start
  change Gg ts pts (Vs ts pts) (cQ ts pts cs n) at ho
  rcases ho with ho | ⟨s',h0,hI,⟨_,h3,_⟩ | ⟨_,h4,_,h5⟩⟩
  ·rw [ho] at h2;cases h2
  ·obtain ⟨v, hv⟩ := Ep w f h0 hI h3
   exact ⟨_,_,hv,rfl,h0,.inl ⟨h2,rfl⟩⟩
  ·rw [h2] at h5
   by_cases q : pts[(cQ ts pts cs n).2.2]!.op = 11
   ·rw [oR q] at h5
    rcases kB ts ts.length 0 s' with e|e|e <;> (rw [e] at h5;cases h5)
   ·rcases BQ (ts := ts) (s := s') q with e|e|e|e <;> (rw [e] at h5;cases h5)
 ·have hc := A6 w A cs n
  obtain ⟨c,L,h3,h4⟩ := De w A cs n hn (by omega)
  have hcl : c < pts.length := by
   clear h3 hc h h2
   generalize (cQ ts pts cs n).2.2 = b at h4
   induction h4 with
   | base h => exact h.1
   | step _ _ ih => exact ih
  refine ⟨c,_,G1 w f hcl h3,rfl,hcl,.inr ⟨h2,?_,h4⟩⟩
  dsimp only
  split <;> decide
end
open Go.RowKit Go.MapKept
def IW (r : Nat) (ks : List Int) (w : World) : Prop := ∃ es ck,w.heap[r]? = some (.map es ck) ∧ ∀ e ∈ es.toList,∃ k ∈ ks,e.key = .int .i64 k
structure GsM (C : Ctx) (s : AS) (r : Nat) (ks : List Int) (a : Act) (w : World) : Prop where
 g : Gs C s a w
 m : IW r ks w
 l : C.w0.heap.size ≤ r
theorem Fr.trans2 {W0 W1:Nat → Prop}{w0 w w':World}(h:Fr W0 w0 w) (k:Fr W1 w w') (hW:∀ b,W1 b → W0 b ∨ w0.heap.size ≤ b):Fr W0 w0 w' :=
 ⟨k.os.trans h.os, k.tape.trans h.tape, k.output.trans h.output, Nat.le_trans h.size k.size, fun b hb hw => by
  rw [k.block b (Nat.lt_of_lt_of_le hb h.size) (fun q => (hW b q).elim hw (fun h => by omega))]; exact h.block b hb hw,fun b => Nat.le_trans (h.bs b) (k.bs b)⟩
theorem GsM.base {C:Ctx}{s:AS}{r:Nat}{ks:List Int}{a:Act}{w:World}(h:GsM C s r ks a w):∃ C':Ctx,C'.N = C.N ∧ Gs C' s a w ∧ ∀ s' a' w',Gs C' s' a' w' → GsM C s' r ks a' w':=by
 obtain ⟨⟨h0,ι,g,gh⟩,⟨es,ck,hm,hk⟩,hl⟩ := h
 let C' : Ctx := { C with w0 := w,W0 := fun b => ∃ id cs β,aO s.hs id = some cs ∧ ι id = some (some (b,β)),xlt := fun b hb => Nat.lt_of_lt_of_le (C.xlt b hb) gh.fr.size }
 have hW : ∀ b, C'.W0 b → C.W0 b ∨ C.w0.heap.size ≤ b := by
  rintro b ⟨id,cs,β,h1,h2⟩
  rcases gh.obj id cs h1 with ⟨h3,_⟩ | ⟨b',β',arr,e,h3,h4,h5,h6,h7,h8⟩
  ·rw [h3] at h2;cases h2
  ·rw [h3] at h2;cases h2;exact h8
 have hr : ¬ C'.W0 r := by
  rintro ⟨id,cs,β,h1,h2⟩
  rcases gh.obj id cs h1 with ⟨h3,_⟩ | ⟨b',β',arr,e,h3,h4,h5,h6,h7,h8⟩
  ·rw [h3] at h2;cases h2
  ·rw [h3] at h2;cases h2;rw [hm] at h4;cases h4
 refine ⟨C',rfl,⟨h0,ι,⟨g.df,g.sz,g.tm⟩,⟨fun id cs h => ?_,gh.sep,Fr.refl _ _,gh.ex,gh.fresh⟩⟩,?_⟩
 ·rcases gh.obj id cs h with h1 | ⟨b', β', arr, e, h3, h4, h5, h6, h7, h8⟩
  ·exact .inl h1
  ·exact .inr ⟨b',β',arr,e,h3,h4,h5,h6,h7,.inl ⟨id,cs,β',h,h3⟩⟩
 ·rintro s' a' w' ⟨h0', ι', g', gh'⟩
  have f : Fr C'.W0 w w' := gh'.fr
  refine ⟨⟨h0',ι',⟨g'.df,g'.sz,g'.tm⟩,⟨fun id cs h => ?_,gh'.sep,gh.fr.trans2 f hW,gh'.ex,gh'.fresh⟩⟩,⟨es,ck,by rw [f.block r (cA hm) hr]; exact hm,hk⟩,hl⟩
  rcases gh'.obj id cs h with h1 | ⟨b',β',arr,e,h3,h4,h5,h6,h7,h8⟩
  ·exact .inl h1
  ·refine .inr ⟨b', β', arr, e, h3, h4, h5, h6, h7, ?_⟩
   rcases h8 with h8|h8
   ·exact hW _ h8
   ·exact .inr (Nat.le_trans gh.fr.size h8)
def nK (P : Program) (N : Nat) (c : Code) (Q : Exit → AS → List Int → Prop) (r : Nat) (ks : List Int) (s : AS) : Prop :=
 ∀ (C : Ctx) (a : Act) (w : World),C.N = N → GsM C s r ks a w → c.wp P (fun e a' w' => ∃ s' ks',Q e s' ks' ∧ GsM C s' r ks' a' w') a w
def BK (P : Program) (N : Nat) (all : Array Oper) (Q : Exit → AS → List Int → Prop) (r : Nat) (ks : List Int) (l : List Oper) (s : AS) : Prop :=
 ∀ (C : Ctx) (a : Act) (w : World),C.N = N → GsM C s r ks a w → wpList P all (fun e a' w' => ∃ s' ks',Q e s' ks' ∧ GsM C s' r ks' a' w') l a w
def oD (K : AS → List Int → Prop) (Q : Exit → AS → List Int → Prop) : Exit → AS → List Int → Prop
 | .normal,s,ks => K s ks
 | e,s,ks => Q e s ks
def EF (id : Nat) (Q : Exit → AS → List Int → Prop) : Exit → AS → List Int → Prop
 | .exit i,s,ks => if i = id then Q .normal s ks else Q (.exit i) s ks
 | e,s,ks => Q e s ks
section
variable {P : Program} {N : Nat} {Q : Exit → AS → List Int → Prop} {s : AS} {r : Nat} {ks : List Int}
theorem lI {c:Code}(h:AW P N c (fun e s' => Q e s' ks) s):nK P N c Q r ks s:=by
 intro C a w hN g
 obtain ⟨C',h1,h2,h3⟩ := g.base
 exact wp_mono (h C' a w (h1.trans hN) h2) fun e a' w' ⟨s',q1,q2⟩ => ⟨s',ks,q1,h3 _ _ _ q2⟩
theorem iL {x y:Code}(h:nK P N x (oD (fun s' ks' => nK P N y Q r ks' s') Q) r ks s):nK P N (.seq x y) Q r ks s:=by
 intro C a w hN g
 refine wp_seq (wp_mono (h C a w hN g) ?_)
 rintro e a' w' ⟨s',ks',h1,h2⟩
 cases e with
 | normal => exact h1 C a' w' hN h2
 | _ => exact ⟨s',ks',h1,h2⟩
theorem wA {x y:Code}{c:Operand}{b:Bool}(hc:ev (lk s.ts) c = some (.v (.bool b))) (h1:b = true → nK P N x Q r ks s) (h2:b = false → nK P N y Q r ks s):nK P N (.cond c x y) Q r ks s:=by
 rintro C a w hN ⟨⟨h0,ι,g,gh⟩,hm,hl⟩
 have h := bV g hc
 simp only [Rd] at h
 cases b
 ·exact wp_cond_false h (h2 rfl C a w hN ⟨⟨h0,ι,g,gh⟩,hm,hl⟩)
 ·exact wp_cond_true h (h1 rfl C a w hN ⟨⟨h0,ι,g,gh⟩,hm,hl⟩)
theorem qZ {id:Nat}{c:Code}(h:nK P N c (EF id Q) r ks s):nK P N (.block id c) Q r ks s:=by
 intro C a w hN g
 refine wp_block (wp_mono (h C a w hN g) ?_)
 rintro e a' w' ⟨s',ks',h1,h2⟩
 cases e with
 | exit i =>
  simp only [Exit.inBlock,EF] at h1 ⊢
  split
  ·rename_i hi;rw [if_pos hi] at h1;exact ⟨s',ks',h1,h2⟩
  ·rename_i hi;rw [if_neg hi] at h1;exact ⟨s',ks',h1,h2⟩
 | _ => exact ⟨s',ks',h1,h2⟩
theorem vE (h:Q .normal s ks):nK P N .skip Q r ks s := fun C a w _ g => wp_skip ⟨s,ks,h,g⟩
theorem B1 {id:Nat}(h:Q (.exit id) s ks):nK P N (.exit id) Q r ks s := fun C a w _ g => wp_exit ⟨s,ks,h,g⟩
theorem CG {σ:Type}{c:Code}(p:σ → Prop) (I:σ → AS) (J:σ → List Int) (μ:σ → Nat) (h0:∃ i,p i ∧ Le s (I i) ∧ J i = ks)
  (round : ∀ i,p i → nK P N c (oD (fun s' ks' => ∃ j,p j ∧ μ j < μ i ∧ Le s' (I j) ∧ J j = ks') Q) r (J i) (I i)) : nK P N (.loop c) Q r ks s := by
 intro C a w hN g
 obtain ⟨i,h1,h2,h3⟩ := h0
 subst h3
 refine wp_loop (fun a w => ∃ i,p i ∧ GsM C (I i) r (J i) a w) (fun a w => jT fun n => ∃ i,p i ∧ GsM C (I i) r (J i) a w ∧ μ i = n) ⟨i,h1,⟨h2 C a w g.g,g.m,g.l⟩⟩ ?_
 rintro a w ⟨i0,hp0,hg0⟩
 obtain ⟨⟨i,hp,hg,hm⟩,hmin⟩ := dP (S := fun n => ∃ i,p i ∧ GsM C (I i) r (J i) a w ∧ μ i = n) ⟨_,i0,hp0,hg0,rfl⟩
 refine wp_mono (round i hp C a w hN hg) ?_
 rintro e a' w' ⟨s',ks',h3,h4⟩
 cases e with
 | normal =>
  obtain ⟨j,q1,q2,q3,rfl⟩ := h3
  have h5 : GsM C (I j) r (J j) a' w' := ⟨q3 C a' w' h4.g,h4.m,h4.l⟩
  refine ⟨⟨j,q1,h5⟩,?_⟩
  have := (dP (S := fun n => ∃ i,p i ∧ GsM C (I i) r (J i) a' w' ∧ μ i = n) ⟨_,j,q1,h5,rfl⟩).2 (μ j) ⟨j,q1,h5,rfl⟩
  omega
 | _ => exact ⟨s',ks',h3,h4⟩
theorem AM {σ:Type}{c:Code}{ts:List (Nat × AV)}{hs:List (Nat × Option (List AV))}{n:Nat}{z0:Lo}(kl:List Nat) (kt:List (Nat × AV)) (js:List Nat) (kh:List (Nat × Option (List AV)))
  (ot : σ → List (Nat × AV)) (oh : σ → List (Nat × Option (List AV))) (J : σ → List Int) (p : σ → Prop) (μ : σ → Nat) (i0 : σ) (h0 : p i0) (hJ : J i0 = ks) (hk : mB kl ts = kt) (hj : m3 js hs = kh)
  (h1 : m9 ts (ot i0)) (h2 : l8 hs (oh i0))
  (round : ∀ i,p i → nK P N c (oD (fun s' ks' => ∃ j,p j ∧ μ j < μ i ∧ Le s' ⟨ot j ++ kt,oh j ++ kh,n,z0⟩ ∧ J j = ks') Q) r (J i) ⟨ot i ++ kt,oh i ++ kh,n,z0⟩) :
  nK P N (.loop c) Q r ks ⟨ts,hs,n,z0⟩ := by
 subst hk hj
 exact CG p (fun i => ⟨ot i ++ mB kl ts,oh i ++ m3 js hs,n,z0⟩) J μ ⟨i0,h0,Le.lit (jH h1 (jN kl)) (jM h2 (k8 js)) (Nat.le_refl _),hJ⟩ round
theorem pK {id:Nat}{l:List Oper}(h:BK P N l.toArray Q r ks l s):nK P N (.region id l.toArray false) Q r ks s :=
 fun C a w hN g => wp_region_lit (h C a w hN g)
variable {all : Array Oper}
theorem CY {o:Oper}{a:Act}{w:World}{K K':Act → World → Prop}{Q1 Q2:Exit → Act → World → Prop}(h:∀ a w,K a w → K' a w) (hq:∀ e a w,Q1 e a w → e = .normal)
  (hh : o.wp P a w K Q1) : o.wp P a w K' Q2 := by
 have hL : ¬ LetsOut Q1 := fun ⟨a,w,q⟩ => by cases hq _ _ _ q
 unfold Oper.wp at *
 generalize (execOp a.eval o).run P w = z at *
 cases z with
 | ok n w' =>
  cases n <;> simp only [Oper.upon] at hh ⊢ <;>
   first
    | exact h _ _ hh
    | exact Calls.mono hh (fun e w'' he => by cases e <;> first|exact h _ _ he|(cases hq _ _ _ he)|exact absurd he hL)
    | exact Rows.mono hh (fun _ _ he => h _ _ he)
 | halt x w' => cases x <;> simp only [Oper.upon] at hh ⊢ <;> (cases hq _ _ _ hh)
theorem fA {Q1 Q2:Exit → Act → World → Prop}{l2:List Oper}(k:∀ e a w,Q1 e a w → e = .normal ∧ wpList P all Q2 l2 a w):∀ (l1:List Oper) (a:Act) (w:World),wpList P all Q1 l1 a w → wpList P all Q2 (l1 ++ l2) a w
 | [],a,w,h => (k _ _ _ h).2
 | o :: l1, a, w, h => by
  have hL : ¬ LetsOut Q1 := fun ⟨a,w,q⟩ => by cases (k _ _ _ q).1
  rw [List.cons_append]
  unfold wpList at h ⊢
  split
  ·rename_i hw
   rw [if_pos hw] at h
   rcases h with h | ⟨_,h⟩
   ·exact .inl (CY (fun a w => fA k l1 a w) (fun e a w q => (k e a w q).1) h)
   ·exact absurd h hL
  ·rename_i hw;rw [if_neg hw] at h;exact fA k l1 _ _ h
theorem vD {l1 l2:List Oper}(h:RW P N all (fun e s' => e = .normal ∧ BK P N all Q r ks l2 s') .txt l1 s):BK P N all Q r ks (l1 ++ l2) s:=by
 intro C a w hN g
 obtain ⟨C',h1,h2,h3⟩ := g.base
 exact fA (fun e a' w' ⟨s',⟨q1,q2⟩,q3⟩ => ⟨q1,q2 C a' w' hN (h3 _ _ _ q3)⟩) l1 a w (h C' a w (h1.trans hN) h2)
theorem Fv (h:Q .normal s ks):BK P N all Q r ks [] s := fun C a w _ g => wpList_nil ⟨s,ks,h,g⟩
variable {rest : List Oper} {ts : List (Nat × AV)} {hs : List (Nat × Option (List AV))} {n : Nat} {z0 : Lo} {d : Nat} {ty : TypeId} {pos : String} {af : Array Edge}
theorem AY {dst:Option Tmp}{op:Op}{j e:Nat}{want b:Bool}(hj:(all[j]?).bind (·.dst) = some e) (hb:lk s.ts e = some (.v (.bool b))) (hw:b = want) (h:BK P N all Q r ks (⟨dst,op,ty,pos,af,none⟩ :: rest) s) :
  BK P N all Q r ks (⟨dst,op,ty,pos,af,some (j,want)⟩ :: rest) s := by
 subst hw
 intro C a w hN g
 have h' := h C a w hN g
 obtain ⟨⟨h0,ι,g,gh⟩,hm,hl⟩ := g
 have hyl : yielded all a.tmps j = some b := by
  obtain ⟨y,hy,hr⟩ := g.tm e _ hb
  simp only [Rd] at hr
  subst hr
  simp [yielded,hj,hy]
 unfold wpList at h' ⊢
 simp only [Region.wanted,hyl,if_true,beq_self_eq_true] at h' ⊢
 exact h'
theorem mV {w:World}{mt kt et:TypeId}{es:Array MapEntry}{ck:Nat}{a:Int}(hu:P.underlying mt = some (.map kt et)) (hk:P.underlying kt = some (.int .i64)) (hz:(P.info? et).bind (·.zero) = some (.bool false))
  (hb : w.heap[r]? = some (.map es ck)) (hn : ∀ e ∈ es.toList,∃ k,k ≠ a ∧ e.key = .int .i64 k) : (Instr.lookup mt (.map (some r)) (.int .i64 a) false).run P w = .ok (.bool false) w ∧ Instr.findNow (.int .i64) (.int .i64 a) es.toList 0 = some none := by
 have hkey : IsKey (.int .i64) (.int .i64 a) := by simp [IsKey]
 have hf : Instr.findNow (.int .i64) (.int .i64 a) es.toList 0 = some none := by
  rcases findNow_spec hkey es.toList 0 (fun x hx => by obtain ⟨k,_,h2⟩ := hn x hx;rw [h2]; simp [IsKey]) with ⟨h,_⟩ | ⟨j,e,_,h2,h3⟩
  ·exact h
  ·obtain ⟨k, h4, h5⟩ := hn e (List.mem_of_getElem? h2)
   rw [h5] at h3;cases h3;exact absurd rfl h4
 refine ⟨?_,hf⟩
 cases hi : P.info? et with
 | none => rw [hi] at hz;cases hz
 | some i =>
  rw [hi] at hz
  have hz2 : i.zero = some (.bool false) := hz
  simp [Instr.lookup,b0 hu,Go.MapKept.run_getObj_map hb,run_checkKey hk hkey,run_findKey hk hf,zeroValue,typeInfo,hi,hz2,Result.andThen]
theorem yA {mt kt et:TypeId}{x y:Operand}{a:Int}(hu:P.underlying mt = some (.map kt et)) (hk:P.underlying kt = some (.int .i64)) (hz:(P.info? et).bind (·.zero) = some (.bool false))
  (hx : ev (lk ts) x = some (.v (.map (some r)))) (hy : ev (lk ts) y = some (.v (.int .i64 a))) (ha : a ∉ ks) (hN : Nat.blt d N = true) (kk : BK P N all Q r ks rest ⟨(d,.v (.bool false)) :: ts,hs,n,z0⟩) :
  BK P N all Q r ks (⟨some d,.lookup mt x y false,ty,pos,af,none⟩ :: rest) ⟨ts,hs,n,z0⟩ := by
 rintro C ac w hCN ⟨⟨h0,ι,g,gh⟩,⟨es,ck,hm,hkk⟩,hl⟩
 refine wpList_plain rfl (fun K hK => ?_)
 have e1 := bV g hx
 have e2 := bV g hy
 simp only [Rd] at e1 e2
 have hr := (mV (P := P) hu hk hz hm (a := a) (fun e he => by obtain ⟨k,h1,h2⟩ := hkk e he;exact ⟨k,fun q => ha (q ▸ h1),h2⟩)).1
 have hop : (execOp ac.eval ⟨some d, .lookup mt x y false, ty, pos, af, none⟩).run P w = .ok (.value (.bool false)) w := by
  simp [execOp,e1,e2,hr]
 simp only [Oper.wp,hop,Oper.upon]
 refine hK _ _ (kk C _ _ hCN ⟨⟨h0,ι,?_,gh⟩,⟨es,ck,hm,hkk⟩,hl⟩)
 show TG C ι (lk ((d,_) :: ts)) _ _ _
 rw [fI]
 exact g.put (by have := dX hN;omega) (by simp [Rd])
theorem wU {mt kt et:TypeId}{x y z:Operand}{a:Int}(hu:P.underlying mt = some (.map kt et)) (hk:P.underlying kt = some (.int .i64)) (hz:(P.info? et).bind (·.zero) = some (.bool false))
  (hx : ev (lk ts) x = some (.v (.map (some r)))) (hy : ev (lk ts) y = some (.v (.int .i64 a))) (ha : a ∉ ks) (kk : BK P N all Q r (ks ++ [a]) rest ⟨ts,hs,n,z0⟩) :
  BK P N all Q r ks (⟨none,.mapUpdate mt x y z,ty,pos,af,none⟩ :: rest) ⟨ts,hs,n,z0⟩ := by
 rintro C ac w hCN ⟨⟨h0,ι,g,gh⟩,⟨es,ck,hm,hkk⟩,hl⟩
 refine wpList_plain rfl (fun K hK => ?_)
 have e1 := bV g hx
 have e2 := bV g hy
 simp only [Rd] at e1 e2
 have hkey : IsKey (.int .i64) (.int .i64 a) := by simp [IsKey]
 have hf := (mV (P := P) hu hk hz hm (a := a) (fun e he => by obtain ⟨k,h1,h2⟩ := hkk e he;exact ⟨k,fun q => ha (q ▸ h1),h2⟩)).2
 let o2 : Obj := .map (es.push { key := .int .i64 a,val := ac.eval z,born := ck }) (ck + 1)
 let w2 : World := { w with heap := w.heap.setIfInBounds r o2 }
 have hop : (execOp ac.eval ⟨none, .mapUpdate mt x y z, ty, pos, af, none⟩).run P w = .ok .skip w2 := by
  simp [execOp,e1,e2,Instr.mapUpdate,b0 hu,Go.MapKept.run_getObj_map hm,run_checkKey hk hkey,run_findKey hk hf,Go.MapKept.run_setObj_map _ hm,Result.andThen,w2,o2]
 obtain ⟨hs1,hs2⟩ := heap_set (o' := o2) hm
 have hne : ∀ b c e f,w.heap[b]? = some (.cells c e f) → b ≠ r := fun b c e f h q => by subst q;rw [hm] at h;cases h
 have hbs : ∀ b, iR w2 b = iR w b := fun b => by
  by_cases e : b = r
  ·subst e;show (match w2.heap[b]? with|some (.cells c _ _) => c.size | _ => 0) = _; rw [show w2.heap[b]? = some o2 from hs1]; simp [iR,hm,o2]
  ·exact lG (hs2 b e)
 have hcell : ∀ b o v, w.cell? ⟨b, o, none⟩ = some v → w2.cell? ⟨b, o, none⟩ = some v := fun b o v h => by
  have : b ≠ r := fun q => by subst q;rw [World.cell?] at h;simp [hm] at h
  rw [bS (hs2 b this)]; exact h
 have car : ∀ bad : Nat → Prop,Carry w bad ι w2 bad ι := fun bad => ⟨fun b o v h1 h2 => ⟨h1,hcell b o v h2⟩,fun _ _ h => h,fun b => Nat.le_of_eq (hbs b).symm⟩
 simp only [Oper.wp,hop,Oper.upon]
 refine hK _ _ (kk C _ _ hCN ⟨⟨h0,ι,?_,?_⟩,⟨_,_,hs1,?_⟩,hl⟩)
 ·exact g.carry (car _)
 ·refine ⟨fun id cs h => ?_, gh.sep, ⟨gh.fr.os, gh.fr.tape, gh.fr.output, by show C.w0.heap.size ≤ (w.heap.setIfInBounds r o2).size; rw [Array.size_setIfInBounds]; exact gh.fr.size, fun b hb hw => ?_, fun b => by rw [hbs]; exact gh.fr.bs b⟩, gh.ex, gh.fresh⟩
  ·rcases gh.obj id cs h with h1 | ⟨b', β', arr, e, h3, h4, h5, h6, h7, h8⟩
   ·exact .inl h1
   ·exact .inr ⟨b',β',arr,e,h3,by rw [show w2.heap[b']? = w.heap[b']? from hs2 b' (hne _ _ _ _ h4)]; exact h4,h5,RdC.carryB (car _) _ _ _ (fun o v hv => hcell b' o v hv) h6,h7,h8⟩
  ·rw [show w2.heap[b]? = w.heap[b]? from hs2 b (by omega)]; exact gh.fr.block b hb hw
 ·intro e he
  rw [Array.toList_push,List.mem_append,List.mem_singleton] at he
  rcases he with he|rfl
  ·obtain ⟨k,h1,h2⟩ := hkk e he;exact ⟨k,List.mem_append_left _ h1,h2⟩
  ·exact ⟨a,by simp,rfl⟩
theorem CC {Q:Exit → AS → Prop}{id:Nat}{t:TypeId}{y:Code}(hN:Nat.blt d N = true)
  (h : ∀ r,BK P N (⟨some d,.makeMap t none,ty,pos,af,none⟩ :: rest).toArray (fun e s' ks' => e = .normal ∧ nK P N y (fun e s' _ => Q e s') r ks' s') r [] rest ⟨(d,.v (.map (some r))) :: ts,hs,n,z0⟩) :
  AW P N (.seq (.region id (⟨some d,.makeMap t none,ty,pos,af,none⟩ :: rest).toArray false) y) Q ⟨ts,hs,n,z0⟩ := by
 rintro C ac w hCN ⟨h0,ι,g,gh⟩
 refine wp_seq (wp_region_lit (wpList_plain rfl (fun K hK => ?_)))
 have hop : (execOp ac.eval ⟨some d, .makeMap t none, ty, pos, af, none⟩).run P w = .ok (.value (.map (some w.heap.size))) (w.alloc (.map #[] 0)) := by
  simp [execOp,Instr.makeMap,newObj,Sem.run]
 have f : Fr (fun _ => False) w (w.alloc (.map #[] 0)) := by
  refine ⟨rfl,rfl,rfl,by simp,fun b hb _ => Below.heap_alloc w _ b hb,fun b => ?_⟩
  rcases Nat.lt_or_ge b w.heap.size with hb|hb
  ·rw [lG (Below.heap_alloc w _ b hb)]; exact Nat.le_refl _
  ·simp [iR,Array.getElem?_eq_none hb]
 obtain ⟨g2,c2⟩ := gh.ext f
 simp only [Oper.wp,hop,Oper.upon]
 refine hK _ _ ?_
 have hh := h w.heap.size C (ac.put (some d) (.map (some w.heap.size))) (w.alloc (.map #[] 0)) hCN ⟨⟨h0,ι,?_,g2⟩,⟨#[],0,heap_alloc_new w _,by simp⟩,gh.fr.size⟩
 ·have := fA (l2 := []) (P := P) (Q2 := Exit.then (y.wp P (fun e a' w' => ∃ s', Q e s' ∧ Gs C s' a' w')) (fun e a' w' => ∃ s', Q e s' ∧ Gs C s' a' w')) (all := (⟨some d, .makeMap t none, ty, pos, af, none⟩ :: rest).toArray)
   (k := fun e a' w' ⟨s', ks', ⟨q1, q2⟩, q3⟩ => ⟨q1, by
    subst q1
    exact wpList_nil (wp_mono (q2 C a' w' hCN q3) (fun e a'' w'' ⟨s'',ks'',u1,u2⟩ => ⟨s'',u1,u2.g⟩))⟩) rest _ _ hh
  rw [List.append_nil] at this
  exact this
 ·show TG C ι (lk ((d, _) :: ts)) _ _ _
  rw [fI]
  exact (g.carry c2).put (by have := dX hN;omega) (by simp [Rd])
theorem Cy {K K2:AS → List Int → Prop}{id:Nat}(h:Q .normal s ks):oD K (oD K2 (EF id Q)) (.exit id) s ks:=by
 have e : oD K (oD K2 (EF id Q)) (.exit id) s ks = (if id = id then Q .normal s ks else Q (.exit id) s ks) := rfl
 rw [e,if_pos rfl]; exact h
theorem BS {Q:Exit → AS → Prop}{id:Nat}{t:TypeId}{y:Code}(h:Stop (AW P N (.seq (.region id (⟨some d,.makeMap t none,ty,pos,af,none⟩ :: rest).toArray false) y) Q s)) :
  AW P N (.seq (.region id (⟨some d,.makeMap t none,ty,pos,af,none⟩ :: rest).toArray false) y) Q s := h
theorem HS {Q:Exit → AS → Prop}{c:Code}(h:AW P N c Q s):Stop (AW P N c Q s) := h
theorem wG {l:List Oper}(h:RW P N all (fun e s' => e = .normal ∧ Q e s' ks) .txt l s):BK P N all Q r ks l s:=by
 intro C a w hN g
 obtain ⟨C',h1,h2,h3⟩ := g.base
 have := fA (l2 := []) (P := P) (all := all) (Q1 := fun e a' w' => ∃ s', (e = .normal ∧ Q e s' ks) ∧ Gs C' s' a' w') (Q2 := fun e a' w' => ∃ s' ks', Q e s' ks' ∧ GsM C s' r ks' a' w')
  (k := fun e a' w' ⟨s',⟨q1,q2⟩,q3⟩ => ⟨q1,by subst q1;exact wpList_nil ⟨s',ks,q2,h3 _ _ _ q3⟩⟩) l a w (h C' a w (h1.trans hN) h2)
 rwa [List.append_nil] at this
end
variable {P : Program} {N : Nat} {Q : Exit → AS → Prop} {all : Array Oper} {rest : List Oper} {ts : List (Nat × AV)} {hs : List (Nat × Option (List AV))} {n : Nat} {z0 : Lo} {md : Md}
variable {d : Nat} {ty : TypeId} {pos : String} {af : Array Edge}
section
theorem fV {α:Type}{hα:Inhabited α}{f g:α → List AV}{xs:List α}{e id k j z:Nat}{t:TypeId}{x:Operand}{cs':List AV}[ha:AgT P t true] [hz:SzT P t z] (hx:ev (lk ts) x = some (.optr id (0 + k * e + j)))
  (hH : aO hs id = some (aA f xs)) (hf : FlT f e) (hg : FE f g) (hk : k < xs.length) (hj : j + z ≤ e) (hc : ((g xs[k]!).drop j).take z = cs') (h0 : Nat.blt 0 z = true) (hN : Nat.blt d N = true) {md' : Md} [hmd : MdA md (rO x ++ rA (.optr id (0 + k * e + j))) [.inl d] md']
  (kk : RW P N all Q md' rest ⟨(d,.agg cs') :: ts,hs,n,z0⟩) : RW P N all Q md (⟨some d,.load t x,ty,pos,af,none⟩ :: rest) ⟨ts,hs,n,z0⟩ := by
 have hl : (g xs[k]!).length = e := by rw [← hg.pf]; exact hf.pf _
 subst hc
 refine oX (cs := (aA f xs).drop (0 + k * e + j)) hx ha.pf hz.pf (by simp only [deref,hH,Option.map_some]) (cs' := ((g xs[k]!).drop j).take z) ?_ (by rw [List.length_take,List.length_drop,hl]; omega) (by have := dX h0;omega) (dX hN) (by rw [hmd.pf]; exact kk)
 rw [Nat.zero_add,← List.drop_drop,e8 f xs k hk,← hg.pf,List.drop_append_of_le_length (by rw [hf.pf]; omega),List.take_append_of_le_length (by rw [List.length_drop,hf.pf]; omega)]
end
theorem Bn (c:Int):gI .and .i64 c 1 = some (.int .i64 (c % 2)):=by
 have h : (BitVec.ofInt 64 c &&& BitVec.ofInt 64 1).toNat = (c % 2).toNat := by
  rw [BitVec.toNat_and,show (BitVec.ofInt 64 1).toNat = 1 from rfl,Nat.and_one_is_mod,BitVec.toNat_ofInt]
  omega
 have e : gI .and .i64 c 1 = some (.int .i64 (IntKind.i64.wrap ((BitVec.ofInt 64 c &&& BitVec.ofInt 64 1).toNat : Int))) := rfl
 rw [e,h]
 rcases Int.emod_two_eq c with h2|h2 <;> rw [h2] <;> rfl
section
theorem Ff {t t':TypeId}{x y:Operand}{c:Int}(hx:ev (lk ts) x = some (.v (.int .i64 c))) (hy:ev (lk ts) y = some (.v (.int .i64 1)))
  (hN : Nat.blt d N = true) {md' : Md} [hmd : MdA md (rO x ++ rO y) [.inl d] md'] (kk : RW P N all Q md' rest ⟨(d,.v (.int .i64 (c % 2))) :: ts,hs,n,z0⟩) : RW P N all Q md (⟨some d,.binOp .and t x y t',ty,pos,af,none⟩ :: rest) ⟨ts,hs,n,z0⟩ :=
 fF hx hy (.inl rfl) (Bn c) (dX hN) (by rw [hmd.pf]; exact kk)
end
theorem AZ {P:Program}{N:Nat}{Q:Exit → AS → Prop}{all:Array Oper}{rest:List Oper}{ts:List (Nat × AV)}{hs:List (Nat × Option (List AV))}{n:Nat}{z0:Lo}{d:Nat}{ty:TypeId}{pos:String}{af:Array Edge}
  {t t' el : TypeId} {x : Operand} {id off m e : Nat} [ht : SlT P t el] (hx : ev (lk ts) x = some (.own id off m e)) (hN : Nat.blt d N = true)
  (kk : ∀ b : Bool,(b = true → m = 0) → RW P N all Q .txt rest ⟨(d,.v (.bool b)) :: ts,hs,n,z0⟩) : RW P N all Q .txt (⟨some d,.binOp .eql t x (.const (.slice none 0 0)) t',ty,pos,af,none⟩ :: rest) ⟨ts,hs,n,z0⟩ := by
 rintro C a w hCN ⟨h0,ι,g,gh⟩
 refine wpList_plain rfl (fun K hK => ?_)
 have h1 := bV g hx
 simp only [Rd] at h1
 obtain ⟨a', m', c, h2, hb⟩ : ∃ a' m' c, a.eval x = .slice a' m' c ∧ (a'.isNone = true → m = 0) := by
  rcases h1 with ⟨_,rfl,a',h2⟩ | ⟨b,β,c,_,h2,_⟩
  ·exact ⟨a',0,0,h2,fun _ => rfl⟩
  ·exact ⟨_,m,c,h2,fun h => by cases h⟩
 have hu := iO ht.pf
 have hg : (eqGuard .eql t x (.const (.slice none 0 0)) (.slice a' m' c) (.slice none 0 0)).run P w = .ok () w := by simp [eqGuard]
 have hr : (execOp a.eval ⟨some d, .binOp .eql t x (.const (.slice none 0 0)) t', ty, pos, af, none⟩).run P w = .ok (.value (.bool a'.isNone)) w := by
  have e2 : a.eval (.const (.slice none 0 0)) = .slice none 0 0 := rfl
  simp only [execOp,h2,e2,Sem.run_bind,hg,Result.andThen_ok,rK w t el hu,Sem.run_pure]
 simp only [Oper.wp,hr,Oper.upon]
 refine hK _ _ (kk a'.isNone hb C _ _ hCN ⟨h0,ι,?_,gh⟩)
 show TG C ι (lk ((d,AV.v (.bool a'.isNone)) :: ts)) _ _ _
 rw [fI]
 exact g.put (by have := dX hN;omega) (by simp [Rd])
section
theorem Bi {k:FuncId}{t:Nat}{args:Array Operand}{tys:Array TypeId}{avs avs0 f c:List AV}{fv:AV}{H0:List (Nat × Option (List AV))}{rr rr':AV}{hh:List (Nat × Option (List AV))}
  (mp : List Nat) (n1 : Nat) (ws : List (Nat × Option (List AV))) (h : MC P k avs0 H0 mp.length (fun _ : Unit => True) (fun _ => rr) (fun _ => hh)) (hx : lk ts t = some fv) (hcl : nS fv = some (k,f,c)) [hc : CaT P k] (ha : evL (lk ts) args.toList = some avs) (hd : distinct mp = true)
  (hH0 : pB hs H0 mp 0 mp) (hk : kT mp.length H0 = true) (har : RnL (mp[·]?) avs0 (f ++ avs ++ c)) (hM : Nat.ble (n + (n1 - mp.length)) cW = true)
  (hr : RnV (tR mp n n1) rr rr') (hwa : qE mp ws = true) (hw : mQ (tR mp n n1) hh ws) (hN : Nat.blt d N = true)
  {md' : Md} [hmd : MdA md (rO (.tmp t) ++ fH args.toList ++ mp.map .inr) (ws.map (fun p => .inr p.1) ++ [.inl d]) md']
  (kk : RW P N all Q md' rest ⟨(d,rr') :: ts,gH hs ws,n + (n1 - mp.length),z0⟩) : RW P N all Q md (⟨some d,.call ⟨.value (.tmp t),args,tys⟩,ty,pos,af,none⟩ :: rest) ⟨ts,hs,n,z0⟩ := by
 have hM' := Nat.le_of_ble_eq_true hM
 have kk2 : RW P N all Q (md.add (rO (.tmp t) ++ fH args.toList ++ mp.map .inr) (ws.map (fun p => .inr p.1) ++ wD (some d))) rest (put ⟨ts, gH hs ws, n + (n1 - mp.length), z0⟩ (some d) rr') := by
  simp only [wD]; rw [hmd.pf]; exact kk
 refine gO (rs := rO (.tmp t) ++ fH args.toList ++ mp.map .inr) (ws := ws) (n' := n + (n1 - mp.length)) (out := rr') rfl (Nat.le_add_right _ _) (.inr hM') (fun C ι F T H a w K Q' hCN ag hF g gh hK => ?_) (fun x e => by cases e;exact dX hN) kk2
 obtain ⟨lf,lc,hy,h1,h2⟩ := rI hcl (bV g (x := .tmp t) (ag.l.l.ev.trans hx))
 simp only [Oper.wp,oN hc.pf _ a w hy,Oper.upon]
 refine (u6 (nid := n) (n1 := n1) h hd gh (fun j i hj => ?_) (l6 hk) har hF (fun _ _ => hr) (fun _ _ => zE hwa hw) (gA (gA h1 (gF g (ag.l.r.evL.trans ha))) h2)).mono ?_
 ·obtain ⟨cs, cs', q1, q2, q3⟩ := oI hH0 j i hj
  exact ⟨cs,cs',by simpa using q1,by rw [ag.r.h i (List.mem_map_of_mem (List.mem_of_getElem? hj))]; exact q2,q3⟩
 ·rintro e w' ⟨v, x, ι', rfl, hx, g', c', hrd⟩
  exact hK ι' w' v (g.carry c') g' hrd
end
open Go.Sort
theorem oM {w:World}{bad:Nat → Prop}{ι:Pl}{b:Nat}:∀ (zs:List Int) (o:Nat),RdC w bad ι (aA cI zs) b o ↔ ∀ j,j < zs.length → w.cell? ⟨b,o + j,none⟩ = some (.int .i64 zs[j]!)
 | [],o => by simp [aA,RdC]
 | z :: zs, o => by
  have e : aA cI (z :: zs) = iv z :: aA cI zs := rfl
  rw [e]
  simp only [RdC]
  rw [oM zs (o + 1)]
  constructor
  ·rintro ⟨⟨x, h1, _, h3⟩, h4⟩ j hj
   cases j with
   | zero => simp only [Rd] at h3;rw [Nat.add_zero,h1,h3]; rfl
   | succ j =>
    have := h4 j (by simpa using hj)
    rw [show o + (j + 1) = o + 1 + j by omega,this]; rfl
  ·intro h
   refine ⟨⟨_,h 0 (by simp),rfl,by simp only [Rd]; rfl⟩,fun j hj => ?_⟩
   have := h (j + 1) (by simpa using hj)
   rw [show o + (j + 1) = o + 1 + j by omega] at this
   rw [this]; rfl
theorem Eh {w:World}{b:Nat}{arr:Array Value}{e:TypeId}{fr:Nat × Nat}(h:w.heap[b]? = some (.cells arr e fr)) (β:Nat) (d:Array Int) (n:Nat) (os:Array Obj) :
  (grow (putRow (Value.int .i64) (Sort.ahead w n) b β d) os).heap[b]? = some (.cells (putCells (Value.int .i64) β d arr) e fr) := by
 have hb : b < w.heap.size := by
  apply Classical.byContradiction;intro q
  rw [Array.getElem?_eq_none (by omega)] at h;cases h
 rw [heap_grow_old _ _ (by rw [size_putRow]; exact hb)]
 unfold putRow mapBlock
 rw [Array.getElem?_modify,if_pos rfl]
 show Option.map _ (w.heap[b]?) = _
 rw [h]; rfl
theorem qK {w:World}{b k:Nat}(hk:k < w.heap.size) (hne:b ≠ k) (β:Nat) (d:Array Int) (n:Nat) (os:Array Obj) :
  (grow (putRow (Value.int .i64) (Sort.ahead w n) b β d) os).heap[k]? = w.heap[k]? := by
 rw [heap_grow_old _ _ (by rw [size_putRow]; exact hk)]
 unfold putRow mapBlock
 rw [Array.getElem?_modify,if_neg hne]; rfl
theorem Ca {P:Program}{k:FuncId}{zs zs':List Int}{rr:AV}(hlen:zs'.length = zs.length)
  (h0 : zs.length = 0 → ∀ (a : Option Addr) (cap : Nat) (w : World),Calls P k #[.slice a 0 cap] w fun e w' => ∃ v,e = .returned v ∧ w' = w ∧ ∀ ι bad,((∃ p,ι 0 = some p) ∧ (cap = 0 ∨ ∃ b β,ι 0 = some (some (b,β)) ∧ a = some ⟨b,β,none⟩ ∧ β + cap ≤ iR w b)) → Rd w bad ι rr v)
  (h1 : ∀ (blk off cap : Nat) (w : World), Holds (Value.int .i64) w blk off zs.toArray → blk < w.heap.size → zs.length ≤ cap → Calls P k #[.slice (some ⟨blk, off, none⟩) zs.length cap] w fun e w' => ∃ v n os, e = .returned v ∧ w' = grow (putRow (Value.int .i64) (Sort.ahead w n) blk off zs'.toArray) os ∧
   ∀ ι bad,ι 0 = some (some (blk,off)) → off + cap ≤ iR w' blk → Rd w' bad ι rr v) :
  MC P k [.own 0 0 zs.length 1] [(0,some (aA cI zs))] 1 (fun _ : Unit => True) (fun _ => rr) (fun _ => [(0,some (aA cI zs'))]) := by
 intro C ι w vals hw hι g hr
 simp only [RdV] at hr
 obtain ⟨y,l,rfl,hy,rfl⟩ := hr
 have hobj := g.obj 0 (aA cI zs) rfl
 simp only [Rd] at hy
 rcases hy with ⟨⟨p,hp⟩,hn,a,rfl⟩ | ⟨b,β,c,hib,rfl,hnc,hcb⟩
 ·have hz : zs = [] := List.eq_nil_of_length_eq_zero hn
  have hz' : zs' = [] := List.eq_nil_of_length_eq_zero (by omega)
  subst hz hz'
  refine (h0 rfl a 0 w).mono ?_
  rintro e w' ⟨v,rfl,rfl,hv⟩
  refine ⟨v,rr,aO [(0,some (aA cI []))],ι,rfl,⟨(),trivial,rfl,fun id cs h => h⟩,hv _ _ ⟨⟨p,hp⟩,.inl rfl⟩,⟨g.obj,g.sep,g.fr,g.ex,fun _ h => h.elim⟩⟩
 ·rcases hobj with ⟨q, _⟩ | ⟨b', β', arr, e, hib', hheap, hsz, hrd, hX, hW⟩
  ·rw [hib] at q;cases q
  ·rw [hib] at hib'; cases hib'
   have hfl : (aA cI zs).length = zs.length := by rw [aI cI (e := 1)]; omega
   have hb : b < w.heap.size := cA hheap
   have hrd' := (oM zs β).1 hrd
   have hH : Holds (Value.int .i64) w b β zs.toArray := fun j hj => by
    have hj' : j < zs.length := by simpa using hj
    refine ⟨?_,?_⟩
    ·rw [hrd' j hj']; simp
    ·unfold World.frozen?; rw [hheap]; simp
   refine (h1 b (β + 0) c w hH hb hnc).mono ?_
   rintro e' w' ⟨v,n,os,rfl,rfl,hv⟩
   have hh := Eh hheap β zs'.toArray n os
   have hbs : ∀ k, iR w k ≤ iR (grow (putRow (Value.int .i64) (Sort.ahead w n) b β zs'.toArray) os) k := fun k => by
    by_cases hk : k < w.heap.size
    ·by_cases q : b = k
     ·subst q;unfold iR;rw [hh,hheap]; simp [putCells]
     ·unfold iR;rw [qK hk q]; exact Nat.le_refl _
    ·unfold iR;rw [Array.getElem?_eq_none (by omega)]; exact Nat.zero_le _
   have hcells : ∀ j, j < zs'.length → (grow (putRow (Value.int .i64) (Sort.ahead w n) b β zs'.toArray) os).cell? ⟨b, β + j, none⟩ = some (.int .i64 zs'[j]!) := fun j hj => by
    rw [cell?_grow _ _ _ (by rw [size_putRow]; exact hb),cell?_putRow (Value.int .i64) (Sort.ahead w n) b β zs.toArray zs'.toArray (holds_ahead _ _ _ _ _ _ hH) (by simpa using hlen) j (by simpa using hj)]
    simp
   refine ⟨v,rr,aO [(0,some (aA cI zs'))],ι,rfl,⟨(),trivial,rfl,fun id cs h => h⟩,hv _ _ hib (by have := hbs b;simp only [Nat.mul_one,Nat.add_zero] at hcb ⊢; omega),?_⟩
   refine ⟨fun id cs h => ?_,fun id id' cs cs' b1 β1 β2 h h' _ _ => ?_,?_,g.ex,fun _ h => h.elim⟩
   ·have hid : id = 0 ∧ cs = aA cI zs' := by
     have h' : cond (Nat.beq id 0) (some (aA cI zs')) none = some cs := h
     by_cases q : id = 0
     ·subst q;cases h'; exact ⟨rfl,rfl⟩
     ·have q' : Nat.beq id 0 = false := by cases id with | zero => exact absurd rfl q | succ _ => rfl
      rw [q'] at h'; cases h'
    obtain ⟨rfl,rfl⟩ := hid
    refine .inr ⟨b,β,_,e,hib,hh,?_,(oM zs' β).2 hcells,hX,hW⟩
    rw [aI cI (e := 1)]
    simp only [putCells,Array.size_mapIdx]
    omega
   ·have hid : ∀ (i : Nat) (c : List AV), aO [(0, some (aA cI zs'))] i = some c → i = 0 := fun i c h => by
     apply Classical.byContradiction;intro q
     have h' : cond (Nat.beq i 0) (some (aA cI zs')) none = some c := h
     have q' : Nat.beq i 0 = false := by cases i with|zero => exact absurd rfl q|succ _ => rfl
     rw [q'] at h'; cases h'
    rw [hid _ _ h,hid _ _ h']
   ·have f := g.fr
    refine ⟨f.os,f.tape,f.output,?_,fun k hk hkW => ?_,fun k => Nat.le_trans (f.bs k) (hbs k)⟩
    ·have := f.size;rw [size_grow,size_putRow]; show _ ≤ w.heap.size + _; omega
    ·have hne : b ≠ k := fun q => by subst q; rcases hW with q | q; exact hkW q; omega
     rw [qK (Nat.lt_of_lt_of_le hk f.size) hne]; exact f.block k hk hkW
mutual
def Bh : Stmt → Prop
 | .mk _ _ _ _ th el => (th.length ≤ 9223372036854775807 ∧ El th) ∧ (el.length ≤ 9223372036854775807 ∧ El el)
def El : List Stmt → Prop
 | [] => True
 | s :: l => Bh s ∧ El l
end
def D6 (l : List Stmt) : Prop := l.length ≤ 9223372036854775807 ∧ El l
theorem y9:∀ {l:List Stmt}{s:Stmt},El l → s ∈ l → Bh s
 | a :: l, s, h, hm => by
  simp only [El] at h
  rcases List.mem_cons.1 hm with rfl|hm
  ·exact h.1
  ·exact y9 h.2 hm
theorem Gt {l:List Stmt}{k:Nat}(h:D6 l) (hk:k < l.length):Bh l[k]! := y9 h.2 (aY l k hk)
theorem HI {s:Stmt}(h:Bh s):D6 s.th ∧ D6 s.el:=by
 cases s
 simp only [Bh] at h
 exact h
theorem CP:∀ {l:List Stmt},(∀ s ∈ l,Bh s) → El l
 | [],_ => by simp only [El]
 | s :: l,h => by simp only [El]; exact ⟨h s (by simp),CP fun x hx => h x (by simp [hx])⟩
def kD : List Stmt → Nat
 | [] => 0
 | s :: l => aJ s.th + aJ s.el + kD l
theorem CV:∀ l:List Stmt,aJ l = l.length + kD l
 | [] => by simp [aJ,kD]
 | s :: l => by
  have := CV l
  simp only [aJ,kD,gG,List.length_cons]; omega
theorem nR:∀ a b:List Stmt,kD (a ++ b) = kD a + kD b
 | [],b => by simp [kD]
 | s :: a, b => by
  have := nR a b
  simp only [List.cons_append,kD]; omega
theorem AK {l:List Stmt}{k:Nat}(hk:k < l.length):kD (l.take (k + 1)) = kD (l.take k) + (aJ l[k]!.th + aJ l[k]!.el):=by
 have e : l.take (k + 1) = l.take k ++ [l[k]!] := by rw [aW _ _ hk,List.take_succ_eq_append_getElem hk]
 rw [e,nR]; simp only [kD]; omega
theorem Em (l:List Stmt) (k:Nat):kD (l.take k) ≤ kD l:=by
 have := nR (l.take k) (l.drop k)
 rw [List.take_append_drop] at this;omega
def Cb (c left : Int) : Int := if c ≤ left then left - c else -1
def Jb : Stmt := .mk 0 0 0 0 [] []
theorem Cr {w:World}{bad:Nat → Prop}{ι:Pl}{b:Nat}:∀ (m β:Nat),RdC w bad ι ((List.replicate m ([Value.int .i64 0,.int .i64 0,.int .i64 0,.int .i64 0,.slice none 0 0,.slice none 0 0].map AV.v)).flatten) b β → RdC w bad ι (aA aP (List.replicate m Jb)) b β
 | 0,_,_ => trivial
 | m + 1, β, h => by
  rw [List.replicate_succ,List.flatten_cons] at h
  rw [List.replicate_succ]
  obtain ⟨g0,g1,g2,g3,⟨x4,p4,q4,r4⟩,⟨x5,p5,q5,r5⟩,h4⟩ := h
  exact ⟨g0,g1,g2,g3,⟨x4,p4,q4,kN (av := .v (.slice none 0 0)) r4⟩,⟨x5,p5,q5,kN (av := .v (.slice none 0 0)) r5⟩,Cr m _ h4⟩
theorem Le.zeroS {ts:List (Nat × AV)}{hs:List (Nat × Option (List AV))}{n:Nat}{z0:Lo}{i m:Nat}(hi:aO hs i = some ((List.replicate m ([Value.int .i64 0,.int .i64 0,.int .i64 0,.int .i64 0,.slice none 0 0,.slice none 0 0].map AV.v)).flatten)) :
  Le ⟨ts,hs,n,z0⟩ ⟨ts,(i,some (aA aP (List.replicate m Jb))) :: hs,n,z0⟩ :=
 Le.cells hi (by rw [aI aP (e := 6)]; simp) fun w bad ι b β h => Cr m β h
inductive TrH (w : World) : List Stmt → Value → List Nat → Prop
 | nil {a : Option Addr} {c : Nat} : TrH w [] (.slice a 0 c) []
 | cons {l : List Stmt} {b o c : Nat} {arr : Array Value} {ty : TypeId} {B : List Nat} (v4 v5 : Nat → Value) (B4 B5 : Nat → List Nat) : 0 < l.length → l.length ≤ c → w.heap[b]? = some (.cells arr ty (0, 0)) → o + c * 6 ≤ arr.size →
  (∀ i, i < l.length → w.cell? ⟨b, o + i * 6, none⟩ = some (.int .i64 l[i]!.op) ∧ w.cell? ⟨b, o + i * 6 + 1, none⟩ = some (.int .i64 l[i]!.x) ∧ w.cell? ⟨b, o + i * 6 + 2, none⟩ = some (.int .i64 l[i]!.y) ∧
   w.cell? ⟨b,o + i * 6 + 3,none⟩ = some (.int .i64 l[i]!.n) ∧ w.cell? ⟨b,o + i * 6 + 4,none⟩ = some (v4 i) ∧ w.cell? ⟨b,o + i * 6 + 5,none⟩ = some (v5 i)) →
  (∀ i,i < l.length → TrH w l[i]!.th (v4 i) (B4 i)) → (∀ i,i < l.length → TrH w l[i]!.el (v5 i) (B5 i)) → B = b :: (List.range l.length).flatMap (fun i => B4 i ++ B5 i) →
  TrH w l (.slice (some ⟨b,o,none⟩) l.length c) B
theorem TrH.one {w:World}{l:List Stmt}{v:Value}{B:List Nat}(h:TrH w l v B):v.oneCell' = true := by cases h <;> rfl
theorem TrH.lt {w:World}{l:List Stmt}{v:Value}{B:List Nat}(h:TrH w l v B):∀ b ∈ B,b < w.heap.size:=by
 induction h with
 | nil => intro b hb;cases hb
 | cons v4 v5 B4 B5 h1 h2 h3 h4 h5 h6 h7 h8 ih6 ih7 =>
  subst h8
  intro b hb
  rcases List.mem_cons.1 hb with rfl|hb
  ·exact cA h3
  ·obtain ⟨i, hi, hb⟩ := List.mem_flatMap.1 hb
   rw [List.mem_range] at hi
   rcases List.mem_append.1 hb with hb|hb
   ·exact ih6 i hi b hb
   ·exact ih7 i hi b hb
theorem TrH.stay {w w':World}{l:List Stmt}{v:Value}{B:List Nat}(h:TrH w l v B):(∀ b ∈ B,w'.heap[b]? = w.heap[b]?) → TrH w' l v B:=by
 induction h with
 | nil => intro _; exact .nil
 | @cons l b o c arr ty B v4 v5 B4 B5 h1 h2 h3 h4 h5 h6 h7 h8 ih6 ih7 =>
  subst h8
  intro hs
  have hb := hs b (List.mem_cons_self)
  have e : ∀ q,w'.cell? ⟨b,q,none⟩ = w.cell? ⟨b,q,none⟩ := fun q => bS hb q
  refine .cons v4 v5 B4 B5 h1 h2 (by rw [hb]; exact h3) h4 (fun i hi => ?_) (fun i hi => ih6 i hi fun q hq => hs q (List.mem_cons_of_mem _ (List.mem_flatMap.2 ⟨i,List.mem_range.2 hi,List.mem_append.2 (.inl hq)⟩))) (fun i hi => ih7 i hi fun q hq => hs q (List.mem_cons_of_mem _ (List.mem_flatMap.2 ⟨i,List.mem_range.2 hi,List.mem_append.2 (.inr hq)⟩))) rfl
  simp only [e]
  exact h5 i hi
theorem RdC_stm {w:World}{bad:Nat → Prop}{ι:Pl}{b:Nat}:∀ (l:List Stmt) (o:Nat),(∀ i,i < l.length → RdC w bad ι (aP l[i]!) b (o + i * 6)) → RdC w bad ι (aA aP l) b o
 | [],_,_ => by simp only [aA,List.flatMap_nil,RdC]
 | s :: l, o, h => by
  have e : aA aP (s :: l) = aP s ++ aA aP l := by simp only [aA,List.flatMap_cons]
  rw [e]
  have h0 := h 0 (by simp)
  refine RdC.append (by simpa using h0) (RdC_stm l _ fun i hi => ?_)
  have hi' := h (i + 1) (by simpa using hi)
  have e6 : (aP s).length = 6 := by rw [e7]; rfl
  rw [e6,show o + 6 + i * 6 = o + (i + 1) * 6 from by omega]
  simpa using hi'
theorem TrH.rd {w:World}{bad:Nat → Prop}{ι:Pl}{l:List Stmt}{v:Value}{B:List Nat}(h:TrH w l v B):(∀ b ∈ B,¬ bad b) → Rd w bad ι (sl aP l) v:=by
 induction h with
 | @nil a c =>
  intro _
  show Rd w bad ι (.imm 0 _) _
  simp only [Rd]
  exact ⟨a,c,rfl,.inl trivial⟩
 | @cons l b o c arr ty B v4 v5 B4 B5 h1 h2 h3 h4 h5 h6 h7 h8 ih6 ih7 =>
  subst h8
  intro hb
  show Rd w bad ι (.imm l.length _) _
  simp only [Rd]
  refine ⟨_,c,rfl,.inr ⟨b,o,h2,rfl,.inr ⟨hb b (List.mem_cons_self),RdC_stm _ _ fun i hi => ?_⟩⟩⟩
  obtain ⟨c0,c1,c2,c3,c4,c5⟩ := h5 i hi
  have r6 := ih6 i hi fun q hq => hb q (List.mem_cons_of_mem _ (List.mem_flatMap.2 ⟨i,List.mem_range.2 hi,List.mem_append.2 (.inl hq)⟩))
  have r7 := ih7 i hi fun q hq => hb q (List.mem_cons_of_mem _ (List.mem_flatMap.2 ⟨i,List.mem_range.2 hi,List.mem_append.2 (.inr hq)⟩))
  rw [e7]
  simp only [RdC]
  exact ⟨⟨_,c0,rfl,by simp only [Rd]⟩,⟨_,c1,rfl,by simp only [Rd]⟩,⟨_,c2,rfl,by simp only [Rd]⟩,⟨_,c3,rfl,by simp only [Rd]⟩,⟨_,c4,(h6 i hi).one,r6⟩,⟨_,c5,(h7 i hi).one,r7⟩,trivial⟩
inductive TrI (w : World) : List Int → Value → List Nat → Prop
 | nil {a : Option Addr} {c : Nat} : TrI w [] (.slice a 0 c) []
 | cons {l : List Int} {b o c : Nat} {arr : Array Value} {ty : TypeId} : 0 < l.length → l.length ≤ c → w.heap[b]? = some (.cells arr ty (0, 0)) → o + c ≤ arr.size → (∀ i, i < l.length → w.cell? ⟨b, o + i, none⟩ = some (.int .i64 l[i]!)) →
  TrI w l (.slice (some ⟨b,o,none⟩) l.length c) [b]
theorem rR {w:World}{bad:Nat → Prop}{ι:Pl}{b:Nat}:∀ (zs:List Int) (o:Nat),(∀ j,j < zs.length → w.cell? ⟨b,o + j,none⟩ = some (.int .i64 zs[j]!)) → RdC w bad ι (aA cI zs) b o
 | [],_,_ => by simp only [aA,List.flatMap_nil,RdC]
 | x :: zs, o, h => by
  have h0 := h 0 (by simp)
  have e : aA cI (x :: zs) = iv x :: aA cI zs := rfl
  rw [e]
  simp only [RdC]
  refine ⟨⟨.int .i64 x,by simpa using h0,rfl,by simp only [Rd]⟩,rR zs (o + 1) fun j hj => ?_⟩
  have := h (j + 1) (by simpa using hj)
  rw [show o + 1 + j = o + (j + 1) from by omega]
  simpa using this
inductive TD
 | ints (l : List Int)
 | stms (l : List Stmt)
def TD.av : TD → AV
 | .ints l => sl cI l
 | .stms l => sl aP l
def TrX (w : World) : TD → Value → List Nat → Prop
 | .ints l,v,B => TrI w l v B
 | .stms l,v,B => TrH w l v B
theorem TrX.one {w:World}{t:TD}{v:Value}{B:List Nat}(h:TrX w t v B):v.oneCell' = true:=by
 cases t with
 | ints l => simp only [TrX] at h;cases h <;> rfl
 | stms l => simp only [TrX] at h;exact h.one
theorem TrX.lt {w:World}{t:TD}{v:Value}{B:List Nat}(h:TrX w t v B):∀ b ∈ B,b < w.heap.size:=by
 cases t with
 | ints l =>
  simp only [TrX] at h
  cases h with
  | nil => intro b hb;cases hb
  | cons h1 h2 h3 h4 h5 => intro b hb;rw [List.mem_singleton] at hb;subst hb;exact cA h3
 | stms l => simp only [TrX] at h;exact h.lt
theorem TrX.stay {w w':World}{t:TD}{v:Value}{B:List Nat}(h:TrX w t v B) (hs:∀ b ∈ B,w'.heap[b]? = w.heap[b]?):TrX w' t v B:=by
 cases t with
 | ints l =>
  simp only [TrX] at h ⊢
  cases h with
  | nil => exact .nil
  | @cons _ b _ _ _ _ h1 h2 h3 h4 h5 =>
   have hb := hs b (by simp)
   exact .cons h1 h2 (by rw [hb]; exact h3) h4 fun i hi => by rw [bS hb]; exact h5 i hi
 | stms l => simp only [TrX] at h ⊢; exact h.stay hs
theorem TrX.rd {w:World}{bad:Nat → Prop}{ι:Pl}{t:TD}{v:Value}{B:List Nat}(h:TrX w t v B) (hb:∀ b ∈ B,¬ bad b):Rd w bad ι t.av v:=by
 cases t with
 | ints l =>
  simp only [TrX] at h
  cases h with
  | @nil a c =>
   show Rd w bad ι (.imm 0 _) _
   simp only [Rd]
   exact ⟨a,c,rfl,.inl trivial⟩
  | @cons _ b o c _ _ h1 h2 h3 h4 h5 =>
   show Rd w bad ι (.imm l.length _) _
   simp only [Rd]
   exact ⟨_,c,rfl,.inr ⟨b,o,h2,rfl,.inr ⟨hb b (by simp),rR _ _ h5⟩⟩⟩
 | stms l => simp only [TrX] at h;exact h.rd hb
abbrev dU := List (TD × Value × List Nat)
def bl (E : dU) : List Nat := E.flatMap fun t => t.2.2
theorem jB (E E2:dU):bl (E ++ E2) = bl E ++ bl E2 := by unfold bl;exact List.flatMap_append
structure TrE (E : dU) (w : World) : Prop where
 t : ∀ t ∈ E,TrX w t.1 t.2.1 t.2.2
 nd : (bl E).Nodup
theorem TrE.lt {E:dU}{w:World}(h:TrE E w):∀ b ∈ bl E,b < w.heap.size := fun b hb => by
 obtain ⟨t,ht,hb⟩ := List.mem_flatMap.1 hb
 exact (h.t t ht).lt b hb
theorem TrE.stay {E:dU}{w w':World}(h:TrE E w) (hs:∀ b ∈ bl E,w'.heap[b]? = w.heap[b]?):TrE E w' :=
 ⟨fun t ht => (h.t t ht).stay fun b hb => hs b (List.mem_flatMap.2 ⟨t,ht,hb⟩),h.nd⟩
theorem TrE.app {E E2:dU}{w:World}(h:TrE E w) (h2:TrE E2 w) (hd:∀ b ∈ bl E,b ∉ bl E2):TrE (E ++ E2) w :=
 ⟨fun t ht => (List.mem_append.1 ht).elim (h.t t) (h2.t t), by
  rw [jB,List.nodup_append]
  exact ⟨h.nd,h2.nd,fun a ha b hb e => hd a ha (e ▸ hb)⟩⟩
def iU (C : Ctx) (wb : World) (E : dU) (hX : ∀ b,C.X b ∨ b ∈ bl E → b < wb.heap.size) : Ctx :=
 { N := C.N,w0 := wb,W0 := fun b => (C.W0 b ∨ C.w0.heap.size ≤ b) ∧ b ∉ bl E,X := fun b => C.X b ∨ b ∈ bl E,ι0 := C.ι0,xlt := hX }
def GsT (C : Ctx) (s : AS) (E : dU) (a : Act) (w : World) : Prop :=
 ∃ (wb : World) (hX : ∀ b,C.X b ∨ b ∈ bl E → b < wb.heap.size),Fr C.W0 C.w0 wb ∧ (∀ b ∈ bl E,C.w0.heap.size ≤ b ∨ C.W0 b) ∧ (∀ b ∈ bl E,¬ C.X b) ∧ TrE E wb ∧ Gs (iU C wb E hX) s a w
theorem GsT.tree {C:Ctx}{s:AS}{E:dU}{a:Act}{w:World}(h:GsT C s E a w):TrE E w:=by
 obtain ⟨wb,hX,f,h1,h2,h3,h0,ι,g,gh⟩ := h
 exact h3.stay fun b hb => gh.fr.block b (h3.lt b hb) (fun q => q.2 hb)
def dE (P : Program) (N : Nat) (c : Code) (Q : Exit → AS → dU → Prop) (E : dU) (s : AS) : Prop :=
 ∀ (C : Ctx) (a : Act) (w : World),C.N = N → GsT C s E a w → c.wp P (fun e a' w' => ∃ s' E',Q e s' E' ∧ GsT C s' E' a' w') a w
def wO (P : Program) (N : Nat) (all : Array Oper) (Q : Exit → AS → dU → Prop) (E : dU) (l : List Oper) (s : AS) : Prop :=
 ∀ (C : Ctx) (a : Act) (w : World),C.N = N → GsT C s E a w → wpList P all (fun e a' w' => ∃ s' E',Q e s' E' ∧ GsT C s' E' a' w') l a w
def z8 (K : AS → dU → Prop) (Q : Exit → AS → dU → Prop) : Exit → AS → dU → Prop
 | .normal,s,E => K s E
 | e,s,E => Q e s E
def IV (id : Nat) (Q : Exit → AS → dU → Prop) : Exit → AS → dU → Prop
 | .exit i,s,E => if i = id then Q .normal s E else Q (.exit i) s E
 | e,s,E => Q e s E
section
variable {P : Program} {N : Nat} {Q : Exit → AS → dU → Prop} {s : AS} {E : dU}
theorem awt_lift {c:Code}(h:AW P N c (fun e s' => Q e s' E) s):dE P N c Q E s:=by
 rintro C a w hN ⟨wb,hX,f,h1,h2,h3,g⟩
 exact wp_mono (h (iU C wb E hX) a w hN g) fun e a' w' ⟨s',q1,q2⟩ => ⟨s',E,q1,wb,hX,f,h1,h2,h3,q2⟩
theorem aR {x y:Code}(h:dE P N x (z8 (fun s' E' => dE P N y Q E' s') Q) E s):dE P N (.seq x y) Q E s:=by
 intro C a w hN g
 refine wp_seq (wp_mono (h C a w hN g) ?_)
 rintro e a' w' ⟨s',ks',h1,h2⟩
 cases e with
 | normal => exact h1 C a' w' hN h2
 | _ => exact ⟨s',ks',h1,h2⟩
theorem iZ {x y:Code}{c:Operand}{b:Bool}(hc:ev (lk s.ts) c = some (.v (.bool b))) (h1:b = true → dE P N x Q E s) (h2:b = false → dE P N y Q E s):dE P N (.cond c x y) Q E s:=by
 intro C a w hN gT
 have gT' := gT
 obtain ⟨wb,hX,f,q1,q2,q3,h0,ι,g,gh⟩ := gT'
 have h := bV g hc
 simp only [Rd] at h
 cases b
 ·exact wp_cond_false h (h2 rfl C a w hN gT)
 ·exact wp_cond_true h (h1 rfl C a w hN gT)
theorem j6 {id:Nat}{c:Code}(h:dE P N c (IV id Q) E s):dE P N (.block id c) Q E s:=by
 intro C a w hN g
 refine wp_block (wp_mono (h C a w hN g) ?_)
 rintro e a' w' ⟨s',ks',h1,h2⟩
 cases e with
 | exit i =>
  simp only [Exit.inBlock,IV] at h1 ⊢
  split
  ·rename_i hi;rw [if_pos hi] at h1;exact ⟨s',ks',h1,h2⟩
  ·rename_i hi;rw [if_neg hi] at h1;exact ⟨s',ks',h1,h2⟩
 | _ => exact ⟨s',ks',h1,h2⟩
theorem jA (h:Q .normal s E):dE P N .skip Q E s := fun C a w _ g => wp_skip ⟨s,E,h,g⟩
theorem uM {id:Nat}(h:Q (.exit id) s E):dE P N (.exit id) Q E s := fun C a w _ g => wp_exit ⟨s,E,h,g⟩
theorem GsT.le {C:Ctx}{s s':AS}{E:dU}{a:Act}{w:World}(h:GsT C s E a w) (k:Le s s'):GsT C s' E a w:=by
 obtain ⟨wb,hX,f,h1,h2,h3,g⟩ := h
 exact ⟨wb,hX,f,h1,h2,h3,k _ _ _ g⟩
theorem GV {c:Code}{s':AS}(h:dE P N c Q E s') (k:Le s s'):dE P N c Q E s := fun C a w hN g => h C a w hN (g.le k)
theorem DZ {σ:Type}{c:Code}(p:σ → Prop) (I:σ → AS) (J:σ → dU) (μ:σ → Nat) (h0:∃ i,p i ∧ Le s (I i) ∧ J i = E)
  (round : ∀ i,p i → dE P N c (z8 (fun s' E' => ∃ j,p j ∧ μ j < μ i ∧ Le s' (I j) ∧ J j = E') Q) (J i) (I i)) : dE P N (.loop c) Q E s := by
 intro C a w hN g
 obtain ⟨i,h1,h2,h3⟩ := h0
 subst h3
 refine wp_loop (fun a w => ∃ i,p i ∧ GsT C (I i) (J i) a w) (fun a w => jT fun n => ∃ i,p i ∧ GsT C (I i) (J i) a w ∧ μ i = n) ⟨i,h1,g.le h2⟩ ?_
 rintro a w ⟨i0,hp0,hg0⟩
 obtain ⟨⟨i,hp,hg,hm⟩,hmin⟩ := dP (S := fun n => ∃ i,p i ∧ GsT C (I i) (J i) a w ∧ μ i = n) ⟨_,i0,hp0,hg0,rfl⟩
 refine wp_mono (round i hp C a w hN hg) ?_
 rintro e a' w' ⟨s',ks',h3,h4⟩
 cases e with
 | normal =>
  obtain ⟨j,q1,q2,q3,rfl⟩ := h3
  have h5 : GsT C (I j) (J j) a' w' := h4.le q3
  refine ⟨⟨j,q1,h5⟩,?_⟩
  have := (dP (S := fun n => ∃ i,p i ∧ GsT C (I i) (J i) a' w' ∧ μ i = n) ⟨_,j,q1,h5,rfl⟩).2 (μ j) ⟨j,q1,h5,rfl⟩
  omega
 | _ => exact ⟨s',ks',h3,h4⟩
theorem bQ {id:Nat}{l:List Oper}(h:wO P N l.toArray Q E l s):dE P N (.region id l.toArray false) Q E s :=
 fun C a w hN g => wp_region_lit (h C a w hN g)
variable {all : Array Oper}
theorem bG (h:Q .normal s E):wO P N all Q E [] s := fun C a w _ g => wpList_nil ⟨s,E,h,g⟩
theorem aX {l1 l2:List Oper}(h:RW P N all (fun e s' => e = .normal ∧ wO P N all Q E l2 s') .txt l1 s):wO P N all Q E (l1 ++ l2) s:=by
 rintro C a w hN ⟨wb,hX,f,h1,h2,h3,g⟩
 exact fA (fun e a' w' ⟨s',⟨q1,q2⟩,q3⟩ => ⟨q1,q2 C a' w' hN ⟨wb,hX,f,h1,h2,h3,q3⟩⟩) l1 a w (h (iU C wb E hX) a w hN g)
theorem eL {o:Oper}{rest:List Oper}(h:RW P N all (fun e s' => e = .normal ∧ wO P N all Q E rest s') .txt [o] s):wO P N all Q E (o :: rest) s := aX (l1 := [o]) h
end
theorem w4 {E:dU}{t:TD × Value × List Nat}(h:t ∈ E){b:Nat}(hb:b ∈ t.2.2):b ∈ bl E := List.mem_flatMap.2 ⟨t,h,hb⟩
theorem TG.carryC {C C':Ctx}{ι ι':Pl}{T:Nat → Option AV}{H H':Nat → Option (List AV)}{a:Act}{w w':World}(hN:C'.N = C.N) (h:TG C ι T H a w) (k:Carry w (aH C.X ι H) ι w' (aH C'.X ι' H') ι'):TG C' ι' T H' a w' :=
 ⟨h.df,h.sz.trans hN.symm,fun t av ht => let ⟨y,h1,h2⟩ := h.tm t av ht; ⟨y,h1,Rd.carry k _ _ h2⟩⟩
theorem GsT.drop {C:Ctx}{s:AS}{E:dU}{a:Act}{w:World}(h:GsT C s E a w):Gs C s a w:=by
 obtain ⟨wb,hX,f,h1,h2,h3,h0,ι,g,gh⟩ := h
 have hb : ∀ b, aH C.X ι (aO s.hs) b → aH (iU C wb E hX).X ι (aO s.hs) b := by
  rintro b (q|q)
  ·exact .inl (.inl q)
  ·exact .inr q
 have car : Carry w (aH (iU C wb E hX).X ι (aO s.hs)) ι w (aH C.X ι (aO s.hs)) ι := ⟨fun b o x q1 q2 => ⟨fun q => q1 (hb b q),q2⟩,fun _ _ h => h,fun _ => Nat.le_refl _⟩
 have hW : ∀ b,(iU C wb E hX).W0 b → C.W0 b ∨ C.w0.heap.size ≤ b := fun b q => q.1
 refine ⟨h0,ι,TG.carryC (C := iU C wb E hX) (C' := C) rfl g car,⟨fun id cs h => ?_,gh.sep,f.trans2 gh.fr hW,gh.ex,gh.fresh⟩⟩
 rcases gh.obj id cs h with q | ⟨b,β,arr,e,q1,q2,q3,q4,q5,q6⟩
 ·exact .inl q
 ·refine .inr ⟨b, β, arr, e, q1, q2, q3, RdC.carryB car _ _ _ (fun _ _ hx => hx) q4, fun q => q5 (.inl q), ?_⟩
  rcases q6 with q6|q6
  ·exact hW b q6
  ·exact .inr (Nat.le_trans f.size q6)
theorem GsT.grow {C:Ctx}{s:AS}{E E2:dU}{a:Act}{w w':World}(h:GsT C s E a w) (f':Fr (fun _ => False) w w') (ht:TrE E2 w') (hf:∀ b ∈ bl E2,w.heap.size ≤ b):GsT C s (E ++ E2) a w':=by
 have hT := h.tree
 obtain ⟨wb,hX,f,h1,h2,h3,h0,ι,g,gh⟩ := h
 have hW : ∀ b,(iU C wb E hX).W0 b → C.W0 b ∨ C.w0.heap.size ≤ b := fun b q => q.1
 have fw : Fr C.W0 C.w0 w := f.trans2 gh.fr hW
 have fw' : Fr C.W0 C.w0 w' := fw.trans2 f' (fun _ q => q.elim)
 have hblk : ∀ b,b < w.heap.size → w'.heap[b]? = w.heap[b]? := fun b hb => f'.block b hb (fun q => q)
 have hT' : TrE (E ++ E2) w' := (hT.stay fun b hb => hblk b (hT.lt b hb)).app ht fun b hb q => by
  have := hT.lt b hb
  have := hf b q
  omega
 have hX' : ∀ b, C.X b ∨ b ∈ bl (E ++ E2) → b < w'.heap.size := by
  rintro b (q|q)
  ·exact Nat.lt_of_lt_of_le (C.xlt b q) fw'.size
  ·exact hT'.lt b q
 have hbad : ∀ b, b < w.heap.size → aH (iU C w' (E ++ E2) hX').X ι (aO s.hs) b → aH (iU C wb E hX).X ι (aO s.hs) b := by
  rintro b hlt (q|q)
  ·rcases q with q | q
   ·exact .inl (.inl q)
   ·rw [jB, List.mem_append] at q
    rcases q with q|q
    ·exact .inl (.inr q)
    ·have := hf b q;omega
  ·exact .inr q
 have car : Carry w (aH (iU C wb E hX).X ι (aO s.hs)) ι w' (aH (iU C w' (E ++ E2) hX').X ι (aO s.hs)) ι := ⟨fun b o x q1 q2 => ⟨fun q => q1 (hbad b (eZ q2) q),by rw [bS (hblk b (eZ q2))]; exact q2⟩,fun _ _ h => h,f'.bs⟩
 refine ⟨w',hX',fw',fun b hb => ?_,fun b hb hx => ?_,hT',h0,ι,TG.carryC (C := iU C wb E hX) (C' := iU C w' (E ++ E2) hX') rfl g car,⟨fun id cs h => ?_,gh.sep,Fr.refl _ _,gh.ex,gh.fresh⟩⟩
 ·rw [jB, List.mem_append] at hb
  rcases hb with hb|hb
  ·exact h1 b hb
  ·exact .inl (Nat.le_trans fw.size (hf b hb))
 ·rw [jB, List.mem_append] at hb
  rcases hb with hb|hb
  ·exact h2 b hb hx
  ·have := hf b hb
   have := C.xlt b hx
   have := fw.size
   omega
 ·rcases gh.obj id cs h with q | ⟨b, β, arr, e, q1, q2, q3, q4, q5, q6⟩
  ·exact .inl q
  ·have hlt := cA q2
   have hbl := hblk b hlt
   refine .inr ⟨b,β,arr,e,q1,by rw [hbl]; exact q2,q3,RdC.carryB car _ _ _ (fun o y hy => by rw [bS hbl]; exact hy) q4,?_,.inl ⟨?_,?_⟩⟩
   ·rintro (q | q)
    ·exact q5 (.inl q)
    ·rw [jB, List.mem_append] at q
     rcases q with q|q
     ·exact q5 (.inr q)
     ·have := hf b q;omega
   ·rcases q6 with q6 | q6
    ·exact hW b q6
    ·exact .inr (Nat.le_trans f.size q6)
   ·intro q
    rw [jB,List.mem_append] at q
    rcases q with q|q
    ·exact q5 (.inr q)
    ·have := hf b q;omega
theorem GsT.of {C:Ctx}{s:AS}{a:Act}{w:World}(h:Gs C s a w):GsT C s [] a w:=by
 obtain ⟨h0,ι,g,gh⟩ := h
 have hX : ∀ b, C.X b ∨ b ∈ bl [] → b < w.heap.size := by
  rintro b (q|q)
  ·exact Nat.lt_of_lt_of_le (C.xlt b q) gh.fr.size
  ·cases q
 have hbad : ∀ b, aH (iU C w [] hX).X ι (aO s.hs) b → aH C.X ι (aO s.hs) b := by
  rintro b (q|q)
  ·rcases q with q | q
   ·exact .inl q
   ·cases q
  ·exact .inr q
 have car : Carry w (aH C.X ι (aO s.hs)) ι w (aH (iU C w [] hX).X ι (aO s.hs)) ι := ⟨fun b o x q1 q2 => ⟨fun q => q1 (hbad b q),q2⟩,fun _ _ h => h,fun _ => Nat.le_refl _⟩
 refine ⟨w,hX,gh.fr,fun b hb => (by cases hb),fun b hb => (by cases hb),⟨fun t ht => (by cases ht),List.nodup_nil⟩,h0,ι,TG.carryC (C := C) (C' := iU C w [] hX) rfl g car,⟨fun id cs h => ?_,gh.sep,Fr.refl _ _,gh.ex,gh.fresh⟩⟩
 rcases gh.obj id cs h with q | ⟨b,β,arr,e,q1,q2,q3,q4,q5,q6⟩
 ·exact .inl q
 ·refine .inr ⟨b, β, arr, e, q1, q2, q3, RdC.carryB car _ _ _ (fun _ _ hx => hx) q4, ?_, .inl ⟨q6, fun q => by cases q⟩⟩
  rintro (q|q)
  ·exact q5 q
  ·cases q
def wP (P : Program) (k : FuncId) (args : List AV) (R : AV → dU → Prop) : Prop :=
 ∀ (w : World) (bad : Nat → Prop) (vals : List Value), (∀ b, bad b → b < w.heap.size) → RdV w bad (fun _ => none) args vals →
  Calls P k vals.toArray w (fun e w' => ∃ v r E,e = .returned v ∧ R r E ∧ r.free = true ∧ Rd w' (fun _ => False) (fun _ => none) r v ∧ Fr (fun _ => False) w w' ∧ TrE E w' ∧ ∀ b ∈ bl E,w.heap.size ≤ b)
theorem dR {P:Program}{k:FuncId}{args:List AV}{r:AV}(h:PC P k args (fun x => x = r)) (hf:r.free = true):wP P k args (fun x E => x = r ∧ E = []):=by
 intro w bad vals hb hv
 let C' : Ctx := { N := 0,w0 := w,W0 := fun _ => False,X := bad,ι0 := fun _ => none,xlt := hb }
 have hbad : ∀ b,aH C'.X (fun _ => none) (aO []) b → bad b := fun b q => (by rcases q with q | ⟨id,cs,β,q1,q2⟩ <;> first|exact q|cases q2)
 have g' : HG C' (fun _ => none) (fun j => 0 ≤ j) (aO []) w :=
  ⟨fun id cs h => by simp [aO] at h,fun id id' cs cs' b β β' h => by simp [aO] at h,Fr.refl _ _,fun _ _ h => h,fun _ _ => rfl⟩
 have hcar : Carry w bad (fun _ => none) w (aH C'.X (fun _ => none) (aO [])) (fun _ => none) := ⟨fun b o x h1 h2 => ⟨fun h => h1 (hbad b h),h2⟩,fun _ _ h => h,fun _ => Nat.le_refl _⟩
 refine (h C' _ w _ rfl rfl g' (RdV.carry hcar _ _ hv)).mono ?_
 rintro e w' ⟨v,r',H',ι',rfl,⟨rfl,_⟩,h4,h5⟩
 exact ⟨v,r',[],rfl,⟨rfl,rfl⟩,hf,Rd.free _ _ hf h4,h5.fr,⟨fun t ht => (by cases ht),List.nodup_nil⟩,fun b hb => (by cases hb)⟩
mutual
inductive LdT (E : dU) : AV → AV → Prop
 | pur {v : AV} : v.pur = true → LdT E v v
 | tree {t : TD} {y : Value} {B : List Nat} : (t,y,B) ∈ E → LdT E (.v y) t.av
 | agg {cs cs' : List AV} : LdTL E cs cs' → LdT E (.agg cs) (.agg cs')
inductive LdTL (E : dU) : List AV → List AV → Prop
 | nil : LdTL E [] []
 | cons {c c' : AV} {cs cs' : List AV} : LdT E c c' → LdTL E cs cs' → LdTL E (c :: cs) (c' :: cs')
end
section
variable {E : dU} {w : World} {bad bad2 : Nat → Prop} {ι : Pl}
mutual
theorem LdT.ok (hT:TrE E w) (h2:∀ b,bad2 b → bad b ∧ b ∉ bl E):∀ {v v':AV},LdT E v v' → ∀ {y:Value},Rd w bad ι v y → Rd w bad2 (fun _ => none) v' y
 | _,_,.pur hp,y,k => Rd.pur _ y hp (Rd.carry (⟨fun b o x q1 q2 => ⟨fun q => q1 (h2 b q).1,q2⟩,fun _ _ h => h,fun _ => Nat.le_refl _⟩ : Carry w bad ι w bad2 ι) _ _ k)
 | _, _, .tree (t := t) (y := y0) (B := B) hm, y, k => by
  simp only [Rd] at k
  subst k
  exact (hT.t _ hm).rd fun b hb q => (h2 b q).2 (w4 hm hb)
 | _, _, .agg h3, y, k => by
  simp only [Rd] at k ⊢
  obtain ⟨l,q1,q2⟩ := k
  exact ⟨l,q1,LdTL.okL hT h2 h3 q2⟩
theorem LdTL.okL (hT:TrE E w) (h2:∀ b,bad2 b → bad b ∧ b ∉ bl E):∀ {v v':List AV},LdTL E v v' → ∀ {y:List Value},RdL w bad ι v y → RdL w bad2 (fun _ => none) v' y
 | _,_,.nil,y,k => by simpa only [RdL] using k
 | _, _, .cons q1 q2, y, k => by
  simp only [RdL] at k ⊢
  obtain ⟨x,l',rfl,p1,p2,p3⟩ := k
  exact ⟨x,l',rfl,p1,LdT.ok hT h2 q1 p2,LdTL.okL hT h2 q2 p3⟩
end
theorem LdTL.okV (hT:TrE E w) (h2:∀ b,bad2 b → bad b ∧ b ∉ bl E):∀ {v v':List AV},LdTL E v v' → ∀ {y:List Value},RdV w bad ι v y → RdV w bad2 (fun _ => none) v' y
 | _,_,.nil,y,k => by simpa only [RdV] using k
 | _, _, .cons q1 q2, y, k => by
  simp only [RdV] at k ⊢
  obtain ⟨x,l',rfl,p2,p3⟩ := k
  exact ⟨x,l',rfl,LdT.ok hT h2 q1 p2,LdTL.okV hT h2 q2 p3⟩
end
theorem GsT.put {C:Ctx}{ts:List (Nat × AV)}{hs:List (Nat × Option (List AV))}{n:Nat}{z0:Lo}{E:dU}{a:Act}{w:World}(h:GsT C ⟨ts,hs,n,z0⟩ E a w){d:Nat}(hd:d < C.N){r:AV}{v:Value}(hf:r.free = true){bad:Nat → Prop}{ι0:Pl}(hr:Rd w bad ι0 r v) :
  GsT C ⟨(d,r) :: ts,hs,n,z0⟩ E (a.put (some d) v) w := by
 obtain ⟨wb,hX,f,h1,h2,h3,h0,ι,g,gh⟩ := h
 refine ⟨wb,hX,f,h1,h2,h3,h0,ι,?_,gh⟩
 show TG (iU C wb E hX) ι (lk ((d,r) :: ts)) _ _ _
 rw [fI]
 exact g.put (C := iU C wb E hX) hd (Rd.free _ _ hf hr)
section
variable {P : Program} {N : Nat} {Q : Exit → AS → dU → Prop} {E : dU} {all : Array Oper} {rest : List Oper} {ts : List (Nat × AV)} {hs : List (Nat × Option (List AV))} {n : Nat} {z0 : Lo} {d : Nat} {ty : TypeId} {pos : String} {af : Array Edge}
theorem cV {k:FuncId}{args:Array Operand}{tys:Array TypeId}{avs avs2:List AV}{R:AV → dU → Prop}[hc:CaT P k] (ha:evL (lk ts) args.toList = some avs) (hl:LdTL E avs avs2) (h:wP P k avs2 R) (hN:Nat.blt d N = true)
  (kk : ∀ r E2,R r E2 → wO P N all Q (E ++ E2) rest ⟨(d,r) :: ts,hs,n,z0⟩) : wO P N all Q E (⟨some d,.call ⟨.value (.func k),args,tys⟩,ty,pos,af,none⟩ :: rest) ⟨ts,hs,n,z0⟩ := by
 intro C a w hCN gT
 refine wpList_plain rfl (fun K hK => ?_)
 simp only [Oper.wp,fU hc.pf,Oper.upon]
 have hT := gT.tree
 have gT' := gT
 obtain ⟨wb,hX,f,h1,h2,h3,h0,ι,g,gh⟩ := gT'
 have hv := gF g ha
 refine (h w (fun b => aH (iU C wb E hX).X ι (aO hs) b ∧ b ∉ bl E) _ (fun b q => gh.bad_lt b q.1) (hl.okV hT (fun b q => q) hv)).mono ?_
 rintro e w' ⟨v,r,E2,rfl,hR,hf,hr,hfr,hT2,hfs⟩
 exact hK _ _ (kk r E2 hR C _ _ hCN ((gT.grow hfr hT2 hfs).put (hCN.symm ▸ dX hN) hf hr))
end
def D9 (P : Program) (res : Array ResultVar) (R : AV → dU → Prop) (e : Exit) (s : AS) (E : dU) : Prop :=
 (e = .ret ∨ e = .normal) ∧ ∃ l, kC P (lk s.ts) (aO s.hs) res.toList = some l ∧ ∀ (C : Ctx) (ι : Pl) (F : Nat → Prop) (w : World) (y : Value), HG C ι F (aO s.hs) w → Rd w (aH C.X ι (aO s.hs)) ι (aN l) y → TrE E w →
  (∀ id cs b β,aO s.hs id = some cs → ι id = some (some (b,β)) → b ∉ bl E) → ∃ r E',R r E' ∧ r.free = true ∧ Rd w (fun _ => False) (fun _ => none) r y ∧ TrE E' w ∧ ∀ b ∈ bl E',b ∈ bl E ∨ ∃ id cs β,aO s.hs id = some cs ∧ ι id = some (some (b,β))
theorem eA {P:Program}{k:FuncId}{fn:Func}{c:Code}{args:List AV}{R:AV → dU → Prop}(hf:P.funcs[k]? = some fn) (hb:fn.body = some c) (hN:args.length ≤ fn.ntmps)
  (h : dE P fn.ntmps c (D9 P fn.results R) [] ⟨dY 0 args,[],0,⟨0,cW⟩⟩) : wP P k args R := by
 intro w bad vals hbd hr
 refine calls_of_wp hf hb ?_
 let C' : Ctx := { N := fn.ntmps,w0 := w,W0 := fun _ => False,X := bad,ι0 := fun _ => none,xlt := hbd }
 have hlen := RdV.length hr
 have hbad : ∀ b,aH C'.X (fun _ => none) (aO []) b → bad b := fun b q => (by rcases q with q | ⟨id,cs,β,q1,q2⟩ <;> first|exact q|cases q2)
 have hcar : Carry w bad (fun _ => none) w (aH C'.X (fun _ => none) (aO [])) (fun _ => none) := ⟨fun b o x h1 h2 => ⟨fun h => h1 (hbad b h),h2⟩,fun _ _ h => h,fun _ => Nat.le_refl _⟩
 have hr' := RdV.carry hcar _ _ hr
 have g' : HG C' (fun _ => none) (Fn 0 ⟨0, cW⟩) (aO []) w :=
  ⟨fun id cs h => by simp [aO] at h,fun id id' cs cs' b β β' h => by simp [aO] at h,Fr.refl _ _,fun _ _ h => h,fun _ _ => rfl⟩
 have gt : TG C' (fun _ => none) (lk (dY 0 args)) (aO []) { tmps := vals.toArray ++ Array.replicate (fn.ntmps - vals.toArray.size) undef, defers := [] } w := by
  refine ⟨rfl,by simp [C',hlen]; omega,fun t av ht => ?_⟩
  obtain ⟨y,_,h1,h2⟩ := iY hr' ht
  refine ⟨y,?_,h2⟩
  have hlt : t < vals.length := by
   rcases Nat.lt_or_ge t vals.length with q|q
   ·exact q
   ·rw [List.getElem?_eq_none (by simpa using q)] at h1;cases h1
  rw [Array.getElem?_append_left (by simpa using hlt)]
  simpa using h1
 have gs : Gs C' ⟨dY 0 args,[],0,⟨0,cW⟩⟩ { tmps := vals.toArray ++ Array.replicate (fn.ntmps - vals.toArray.size) undef,defers := [] } w := ⟨fun id _ => .inr rfl,_,gt,g'⟩
 refine wp_mono (h C' _ w rfl (GsT.of gs)) ?_
 rintro e a' w' ⟨s1,E,⟨he,l,hres,hfin⟩,gT⟩
 have hT := gT.tree
 have gD := gT.drop
 have hfr : Fr (fun _ => False) w w' := by obtain ⟨_,_,_,gh⟩ := gD;exact gh.fr
 obtain ⟨wb,hX,f,h1,h2,h3,h0,ι,g1,g2⟩ := gT
 obtain ⟨ys,q1,q2⟩ := lT (P := P) g1 g2 hres
 have hres' : (results fn a'.tmps).run P w' = .ok (if h : ys.toArray.size = 1 then ys.toArray[0] else .tuple ys.toArray) w' := by
  have hr1 : results fn a'.tmps = (do let vs ← fn.results.mapM (rS a'); pure (if h : vs.size = 1 then vs[0] else .tuple vs)) := by
   unfold results
   congr 1
  rw [hr1,Array.mapM_eq_mapM_toList,Sem.run_bind,Sem.run_map,q1]
  simp only [Result.andThen_ok,Sem.run_pure]
 obtain ⟨r, E', p1, p2, p3, p4, p5⟩ := hfin (iU C' wb E hX) ι _ w' _ g2 (nV q2) hT (fun id cs b β r1 r2 r3 => by
  rcases g2.obj id cs r1 with ⟨q,_⟩ | ⟨b',β',arr,e',q,q4,q5,q6,q7,q8⟩
  ·rw [q] at r2;cases r2
  ·rw [q] at r2;cases r2;exact q7 (.inr r3))
 have hfs : ∀ b ∈ bl E', w.heap.size ≤ b := fun b hb => by
  rcases p5 b hb with q | ⟨id,cs,β,r1,r2⟩
  ·rcases h1 b q with q | q
   ·exact q
   ·exact q.elim
  ·rcases g2.obj id cs r1 with ⟨q, _⟩ | ⟨b', β', arr, e', q, q4, q5, q6, q7, q8⟩
   ·rw [q] at r2;cases r2
   ·rw [q] at r2; cases r2
    rcases q8 with q8|q8
    ·rcases q8.1 with q | q
     ·exact q.elim
     ·exact q
    ·exact Nat.le_trans f.size q8
 rcases he with rfl|rfl
 ·exact ⟨g1.df,_,hres',_,r,E',rfl,p1,p2,p3,hfr,p4,hfs⟩
 ·exact ⟨g1.df,_,hres',_,r,E',rfl,p1,p2,p3,hfr,p4,hfs⟩
theorem lR {w:World}{bad:Nat → Prop}{ι:Pl}{b:Nat}:∀ (zs:List Int) (o:Nat),RdC w bad ι (aA cI zs) b o → ∀ j,j < zs.length → w.cell? ⟨b,o + j,none⟩ = some (.int .i64 zs[j]!)
 | [],_,_,j,hj => by simp at hj
 | x :: zs, o, h, j, hj => by
  have e : aA cI (x :: zs) = iv x :: aA cI zs := rfl
  rw [e] at h
  simp only [RdC] at h
  obtain ⟨⟨v,h1,_,h3⟩,h4⟩ := h
  simp only [Rd] at h3
  subst h3
  cases j with
  | zero => simpa using h1
  | succ j =>
   have := lR zs (o + 1) h4 j (by simpa using hj)
   rw [show o + (j + 1) = o + 1 + j from by omega]
   simpa using this
abbrev SX := Stmt × (Value × List Nat) × (Value × List Nat)
def cT (x : SX) : List AV := [iv x.1.op,iv x.1.x,iv x.1.y,iv x.1.n,.v x.2.1.1,.v x.2.2.1]
instance : FlT cT 6:=⟨fun _ => rfl⟩
instance : FE cT (fun x => [iv x.1.op,iv x.1.x,iv x.1.y,iv x.1.n,.v x.2.1.1,.v x.2.2.1]):=⟨fun _ => rfl⟩
instance (x : SX) : Pur (cT x):=⟨rfl⟩
def iT (xs : List SX) : dU := xs.flatMap fun x => [(.stms x.1.th,x.2.1.1,x.2.1.2),(.stms x.1.el,x.2.2.1,x.2.2.2)]
theorem Dz (xs:List SX) (x:SX):iT (xs ++ [x]) = iT xs ++ [(.stms x.1.th,x.2.1.1,x.2.1.2),(.stms x.1.el,x.2.2.1,x.2.2.2)]:=by
 unfold iT;rw [List.flatMap_append]; simp
theorem yB (xs:List SX):bl (iT xs) = (List.range xs.length).flatMap fun i => xs[i]!.2.1.2 ++ xs[i]!.2.2.2:=by
 have e : xs = (List.range xs.length).map fun i => xs[i]! := by
  refine List.ext_getElem (by simp) fun i h1 h2 => ?_
  rw [List.getElem_map,List.getElem_range,aW _ _ h1]
 have : bl (iT xs) = xs.flatMap fun x => x.2.1.2 ++ x.2.2.2 := by
  unfold bl iT
  rw [List.flatMap_assoc]
  congr 1
  funext x
  simp
 rw [this]
 conv => lhs;rw [e,List.flatMap_map]
theorem tD {w : World} {bad : Nat → Prop} {ι : Pl} {b : Nat} : ∀ (xs : List SX) (o : Nat), RdC w bad ι (aA cT xs) b o → ∀ i, i < xs.length → w.cell? ⟨b, o + i * 6, none⟩ = some (.int .i64 xs[i]!.1.op) ∧ w.cell? ⟨b, o + i * 6 + 1, none⟩ = some (.int .i64 xs[i]!.1.x) ∧ w.cell? ⟨b, o + i * 6 + 2, none⟩ = some (.int .i64 xs[i]!.1.y) ∧
   w.cell? ⟨b,o + i * 6 + 3,none⟩ = some (.int .i64 xs[i]!.1.n) ∧ w.cell? ⟨b,o + i * 6 + 4,none⟩ = some xs[i]!.2.1.1 ∧ w.cell? ⟨b,o + i * 6 + 5,none⟩ = some xs[i]!.2.2.1
 | [],_,_,j,hj => by simp at hj
 | x :: xs, o, h, j, hj => by
  have e : aA cT (x :: xs) = iv x.1.op :: iv x.1.x :: iv x.1.y :: iv x.1.n :: .v x.2.1.1 :: .v x.2.2.1 :: aA cT xs := rfl
  rw [e] at h
  simp only [RdC] at h
  obtain ⟨⟨a0,p0,_,r0⟩,⟨a1,p1,_,r1⟩,⟨a2,p2,_,r2⟩,⟨a3,p3,_,r3⟩,⟨a4,p4,_,r4⟩,⟨a5,p5,_,r5⟩,h6⟩ := h
  simp only [Rd] at r0 r1 r2 r3 r4 r5
  subst r0 r1 r2 r3 r4 r5
  cases j with
  | zero => exact ⟨by simpa using p0,by simpa using p1,by simpa using p2,by simpa using p3,by simpa using p4,by simpa using p5⟩
  | succ j =>
   have := tD xs (o + 6) (by simpa [Nat.add_assoc] using h6) j (by simpa using hj)
   rw [show o + (j + 1) * 6 = o + 6 + j * 6 from by omega]
   simpa using this
theorem r9 {P:Program}{res:Array ResultVar}{R:AV → dU → Prop}{s:AS}{E:dU}{l:List AV}(hr:kC P (lk s.ts) (aO s.hs) res.toList = some l){r:AV}(e:aN l = r) (hf:r.free = true) (hR:R r E):D9 P res R .ret s E:=by
 subst e
 exact ⟨.inl rfl,l,hr,fun C ι F w y g hy hT hd => ⟨_,E,hR,hf,Rd.free _ _ hf hy,hT,fun b hb => .inl hb⟩⟩
theorem yO {C:Ctx}{ι:Pl}{F:Nat → Prop}{H:Nat → Option (List AV)}{w:World}(g:HG C ι F H w){i n e:Nat}{y:Value}{cs:List AV}(hy:Rd w (aH C.X ι H) ι (.own i 0 n e) y) (hH:H i = some cs) (hn:0 < n) :
  ∃ (b β c : Nat) (arr : Array Value) (el : TypeId),ι i = some (some (b,β)) ∧ y = .slice (some ⟨b,β,none⟩) n c ∧ n ≤ c ∧ w.heap[b]? = some (.cells arr el (0,0)) ∧ β + c * e ≤ arr.size ∧ RdC w (aH C.X ι H) ι cs b β := by
 simp only [Rd] at hy
 rcases hy with ⟨_,q,_⟩ | ⟨b,β,c,q1,q2,q3,q4⟩
 ·omega
 ·rcases g.obj i cs hH with ⟨q, _⟩ | ⟨b', β', arr, el, p1, p2, p3, p4, p5, p6⟩
  ·rw [q] at q1;cases q1
  ·rw [p1] at q1; cases q1
   exact ⟨_,_,c,arr,el,p1,by rw [Nat.add_zero] at q2;exact q2,q3,p2,by unfold iR at q4;rw [p2] at q4;simpa using q4,p4⟩
theorem rU {w:World}{bad:Nat → Prop}{ι:Pl}{i e:Nat}{y:Value}(hy:Rd w bad ι (.own i 0 0 e) y):∃ a c,y = .slice a 0 c:=by
 simp only [Rd] at hy
 rcases hy with ⟨_,_,a,rfl⟩ | ⟨b,β,c,_,rfl,_⟩
 ·exact ⟨_,_,rfl⟩
 ·exact ⟨_,_,rfl⟩
theorem TrE.one {t:TD}{y:Value}{B:List Nat}{w:World}(h:TrX w t y B) (hn:B.Nodup):TrE [(t,y,B)] w :=
 ⟨fun x hx => by rw [List.mem_singleton] at hx;subst hx;exact h,by simpa [bl] using hn⟩
theorem Ez {P:Program}{res:Array ResultVar}{R:AV → dU → Prop}{s:AS}{l:List AV}(hr:kC P (lk s.ts) (aO s.hs) res.toList = some l){i n:Nat}{L:List Int}(e:aN l = .own i 0 n 1) (hH:aO s.hs i = some (aA cI L)) (hn:n = L.length)
  (hR : ∀ a c B,R (.v (.slice a L.length c)) [(.ints L,.slice a L.length c,B)]) : D9 P res R .ret s [] := by
 subst hn
 refine ⟨.inl rfl,l,hr,fun C ι F w y g hy hT hd => ?_⟩
 rw [e] at hy
 rcases Nat.eq_zero_or_pos L.length with h0|h0
 ·have hL : L = [] := List.eq_nil_of_length_eq_zero h0
  subst hL
  obtain ⟨a,c,rfl⟩ := rU hy
  exact ⟨_,_,hR a c [],rfl,(by simp only [Rd]; rfl),TrE.one (show TrI w [] _ _ from .nil) List.nodup_nil,fun b hb => by simp [bl] at hb⟩
 ·obtain ⟨b, β, c, arr, el, q1, rfl, q3, q4, q5, q6⟩ := yO g hy hH h0
  refine ⟨_,_,hR (some ⟨b,β,none⟩) c [b],rfl,by simp only [Rd],TrE.one (by simp only [TrX]; exact .cons h0 q3 q4 (by omega) (lR L β q6)) (by simp),fun b' hb => .inr ⟨i,_,β,hH,?_⟩⟩
  simp [bl] at hb
  subst hb;exact q1
theorem u0 {P:Program}{res:Array ResultVar}{R:AV → dU → Prop}{s:AS}{l:List AV}(hr:kC P (lk s.ts) (aO s.hs) res.toList = some l){i n:Nat}{L Z:List Int}(e:aN l = .own i 0 n 1) (hH:aO s.hs i = some (aA cI (L ++ Z))) (hn:n = L.length)
  (hR : ∀ a c B,R (.v (.slice a L.length c)) [(.ints L,.slice a L.length c,B)]) : D9 P res R .ret s [] := by
 subst hn
 refine ⟨.inl rfl,l,hr,fun C ι F w y g hy hT hd => ?_⟩
 rw [e] at hy
 rcases Nat.eq_zero_or_pos L.length with h0|h0
 ·have hL : L = [] := List.eq_nil_of_length_eq_zero h0
  subst hL
  obtain ⟨a,c,rfl⟩ := rU hy
  exact ⟨_,_,hR a c [],rfl,(by simp only [Rd]; rfl),TrE.one (show TrI w [] _ _ from .nil) List.nodup_nil,fun b hb => by simp [bl] at hb⟩
 ·obtain ⟨b, β, c, arr, el, q1, rfl, q3, q4, q5, q6⟩ := yO g hy hH h0
  refine ⟨_,_,hR (some ⟨b,β,none⟩) c [b],rfl,by simp only [Rd],TrE.one (by simp only [TrX]; exact .cons h0 q3 q4 (by omega) (fun i hi => by have := lR (L ++ Z) β q6 i (by rw [List.length_append]; omega);rw [this,aW _ _ (by rw [List.length_append]; omega),aW _ _ hi,List.getElem_append_left hi])) (by simp),fun b' hb => .inr ⟨i,_,β,hH,?_⟩⟩
  simp [bl] at hb
  subst hb;exact q1
theorem EP {P:Program}{res:Array ResultVar}{R:AV → dU → Prop}{s:AS}{l:List AV}(hr:kC P (lk s.ts) (aO s.hs) res.toList = some l){i n:Nat}{xs:List SX}(e:aN l = .own i 0 n 6) (hH:aO s.hs i = some (aA cT xs)) (hn:n = xs.length)
  (hR : ∀ a c B,R (.v (.slice a xs.length c)) [(.stms (xs.map (·.1)),.slice a xs.length c,B)]) : D9 P res R .ret s (iT xs) := by
 subst hn
 refine ⟨.inl rfl,l,hr,fun C ι F w y g hy hT hd => ?_⟩
 rw [e] at hy
 rcases Nat.eq_zero_or_pos xs.length with h0|h0
 ·have hL : xs = [] := List.eq_nil_of_length_eq_zero h0
  subst hL
  obtain ⟨a,c,rfl⟩ := rU hy
  exact ⟨_,_,hR a c [],rfl,(by simp only [Rd]; rfl),TrE.one (show TrH w [] _ _ from .nil) List.nodup_nil,fun b hb => by simp [bl] at hb⟩
 ·obtain ⟨b, β, c, arr, el, q1, rfl, q3, q4, q5, q6⟩ := yO g hy hH h0
  have hl : (xs.map (·.1)).length = xs.length := by simp
  have hx : ∀ i,i < xs.length → (xs.map (·.1))[i]! = xs[i]!.1 := fun i hi => by rw [aW _ _ (by simpa using hi),aW _ _ hi,List.getElem_map]
  have hm : ∀ i, i < xs.length → TrH w xs[i]!.1.th xs[i]!.2.1.1 xs[i]!.2.1.2 ∧ TrH w xs[i]!.1.el xs[i]!.2.2.1 xs[i]!.2.2.2 := fun i hi => by
   have hin := aY xs i hi
   have h4 := hT.t (.stms xs[i]!.1.th,xs[i]!.2.1.1,xs[i]!.2.1.2) (List.mem_flatMap.2 ⟨_,hin,by simp⟩)
   have h5 := hT.t (.stms xs[i]!.1.el,xs[i]!.2.2.1,xs[i]!.2.2.2) (List.mem_flatMap.2 ⟨_,hin,by simp⟩)
   simp only [TrX] at h4 h5
   exact ⟨h4,h5⟩
  have hcell := tD xs β q6
  have htr : TrH w (xs.map (·.1)) (.slice (some ⟨b, β, none⟩) (xs.map (·.1)).length c) (b :: bl (iT xs)) := by
   refine .cons (fun i => xs[i]!.2.1.1) (fun i => xs[i]!.2.2.1) (fun i => xs[i]!.2.1.2) (fun i => xs[i]!.2.2.2) (by rw [hl]; exact h0) (by rw [hl]; exact q3) q4 q5 (fun i hi => ?_) (fun i hi => ?_) (fun i hi => ?_) (by rw [yB,hl])
   ·rw [hl] at hi;rw [hx i hi]; exact hcell i hi
   ·rw [hl] at hi;rw [hx i hi]; exact (hm i hi).1
   ·rw [hl] at hi;rw [hx i hi]; exact (hm i hi).2
  rw [hl] at htr
  refine ⟨_,_,hR (some ⟨b,β,none⟩) c (b :: bl (iT xs)),rfl,by simp only [Rd],TrE.one (by simp only [TrX]; exact htr) (List.nodup_cons.2 ⟨hd i _ b β hH q1,hT.nd⟩),fun b' hb => ?_⟩
  have hb' : b' = b ∨ b' ∈ bl (iT xs) := by
   unfold bl at hb;simpa [bl] using hb
  rcases hb' with rfl|hb'
  ·exact .inr ⟨i,_,β,hH,q1⟩
  ·exact .inl hb'
theorem qN {P:Program}{N:Nat}{Q:Exit → AS → dU → Prop}{E:dU}{σ:Type}{c:Code}{ts:List (Nat × AV)}{hs:List (Nat × Option (List AV))}{n:Nat}{z0:Lo}(kl:List Nat) (kt:List (Nat × AV)) (js:List Nat) (kh:List (Nat × Option (List AV)))
  (ot : σ → List (Nat × AV)) (oh : σ → List (Nat × Option (List AV))) (J : σ → dU) (p : σ → Prop) (μ : σ → Nat) (i0 : σ) (h0 : p i0) (hJ : J i0 = E) (hk : mB kl ts = kt) (hj : m3 js hs = kh)
  (h1 : m9 ts (ot i0)) (h2 : l8 hs (oh i0))
  (round : ∀ i,p i → dE P N c (z8 (fun s' E' => ∃ j,p j ∧ μ j < μ i ∧ Le s' ⟨ot j ++ kt,oh j ++ kh,n,z0⟩ ∧ J j = E') Q) (J i) ⟨ot i ++ kt,oh i ++ kh,n,z0⟩) :
  dE P N (.loop c) Q E ⟨ts,hs,n,z0⟩ := by
 subst hk hj
 exact DZ p (fun i => ⟨ot i ++ mB kl ts,oh i ++ m3 js hs,n,z0⟩) J μ ⟨i0,h0,Le.lit (jH h1 (jN kl)) (jM h2 (k8 js)) (Nat.le_refl _),hJ⟩ round
def zT : SX := (Jb,(.slice none 0 0,[]),(.slice none 0 0,[]))
theorem Cs:∀ n:Nat,(List.replicate n ([Value.int .i64 0,.int .i64 0,.int .i64 0,.int .i64 0,.slice none 0 0,.slice none 0 0].map AV.v)).flatten = aA cT (List.replicate n zT)
 | 0 => rfl
 | n + 1 => by
  rw [List.replicate_succ,List.replicate_succ,List.flatten_cons,Cs n]; rfl
theorem Ir {xs:List SX}{k:Nat}(x:SX) (hk:k < xs.length):eR (aA cT xs) (0 + k * 6) [iv x.1.op,iv x.1.x,iv x.1.y,iv x.1.n,.v x.2.1.1,.v x.2.2.1] = aA cT (xs.set k x) := hG hk rfl
def I4 (P : Program) (k : FuncId) (avs : List AV) (E0 E0' : dU) (k1 : Int) : Prop := ∀ (w : World) (vals : List Value),RdV w (fun _ => False) (fun _ => none) avs vals → TrE E0 w →
 Calls P k vals.toArray w (fun e w' => e = .returned (.int .i64 k1) ∧ Fr (fun b => b ∈ bl E0) w w' ∧ TrE E0' w')
theorem kV (E1 E0 E2:dU):bl (E1 ++ (E0 ++ E2)) = bl E1 ++ (bl E0 ++ bl E2) := by rw [jB,jB]
theorem GsT.mark {C:Ctx}{s:AS}{E1 E0 E0' E2:dU}{a:Act}{w w':World}(h:GsT C s (E1 ++ (E0 ++ E2)) a w) (f':Fr (fun b => b ∈ bl E0) w w') (ht:TrE E0' w') (hb0:bl E0' = bl E0):GsT C s (E1 ++ (E0' ++ E2)) a w':=by
 have hT := h.tree
 obtain ⟨wb,hX,f,h1,h2,h3,h0,ι,g,gh⟩ := h
 have hnd := hT.nd
 rw [kV,List.nodup_append,List.nodup_append] at hnd
 obtain ⟨n1,⟨n2,n3,n4⟩,n5⟩ := hnd
 have hBm : ∀ b,b ∈ bl E0 → b ∈ bl (E1 ++ (E0 ++ E2)) := fun b hb => by rw [kV]; exact List.mem_append.2 (.inr (List.mem_append.2 (.inl hb)))
 have hW : ∀ b,(iU C wb _ hX).W0 b → C.W0 b ∨ C.w0.heap.size ≤ b := fun b q => q.1
 have fw : Fr C.W0 C.w0 w := f.trans2 gh.fr hW
 have fw' : Fr C.W0 C.w0 w' := fw.trans2 f' (fun b q => (h1 b (hBm b q)).elim .inr .inl)
 have hblk : ∀ b,b < w.heap.size → b ∉ bl E0 → w'.heap[b]? = w.heap[b]? := fun b hb hn => f'.block b hb hn
 have hT' : TrE (E1 ++ (E0' ++ E2)) w' := by
  refine ⟨fun x hx => ?_,by rw [kV,hb0]; have := hT.nd;rw [kV] at this;exact this⟩
  rcases List.mem_append.1 hx with hx|hx
  ·have hq := hT.t x (List.mem_append.2 (.inl hx))
   exact hq.stay fun b hb => hblk b (hq.lt b hb) fun hn => n5 b (w4 hx hb) b (List.mem_append.2 (.inl hn)) rfl
  ·rcases List.mem_append.1 hx with hx | hx
   ·exact ht.t x hx
   ·have hq := hT.t x (List.mem_append.2 (.inr (List.mem_append.2 (.inr hx))))
    exact hq.stay fun b hb => hblk b (hq.lt b hb) fun hn => n4 b hn b (w4 hx hb) rfl
 have heq : ∀ b,b ∈ bl (E1 ++ (E0' ++ E2)) ↔ b ∈ bl (E1 ++ (E0 ++ E2)) := fun b => by rw [kV,kV,hb0]
 have hX' : ∀ b, C.X b ∨ b ∈ bl (E1 ++ (E0' ++ E2)) → b < w'.heap.size := by
  rintro b (q|q)
  ·exact Nat.lt_of_lt_of_le (C.xlt b q) fw'.size
  ·exact hT'.lt b q
 have hbad : ∀ b, aH (iU C w' _ hX').X ι (aO s.hs) b → aH (iU C wb _ hX).X ι (aO s.hs) b := by
  rintro b (q|q)
  ·rcases q with q | q
   ·exact .inl (.inl q)
   ·exact .inl (.inr ((heq b).1 q))
  ·exact .inr q
 have hnB : ∀ b,¬ aH (iU C wb _ hX).X ι (aO s.hs) b → b ∉ bl E0 := fun b hb q => hb (.inl (.inr (hBm b q)))
 have car : Carry w (aH (iU C wb _ hX).X ι (aO s.hs)) ι w' (aH (iU C w' _ hX').X ι (aO s.hs)) ι := ⟨fun b o x q1 q2 => ⟨fun q => q1 (hbad b q),by rw [bS (hblk b (eZ q2) (hnB b q1))]; exact q2⟩,fun _ _ h => h,f'.bs⟩
 refine ⟨w',hX',fw',fun b hb => h1 b ((heq b).1 hb),fun b hb => h2 b ((heq b).1 hb),hT',h0,ι,TG.carryC (C := iU C wb _ hX) (C' := iU C w' _ hX') rfl g car,⟨fun id cs h => ?_,gh.sep,Fr.refl _ _,gh.ex,gh.fresh⟩⟩
 rcases gh.obj id cs h with q | ⟨b,β,arr,e,q1,q2,q3,q4,q5,q6⟩
 ·exact .inl q
 ·have hlt := cA q2
  have hb' := hblk b hlt fun q => q5 (.inr (hBm b q))
  refine .inr ⟨b,β,arr,e,q1,by rw [hb']; exact q2,q3,RdC.carryB car _ _ _ (fun o y hy => by rw [bS hb']; exact hy) q4,?_,.inl ⟨?_,?_⟩⟩
  ·rintro (q | q)
   ·exact q5 (.inl q)
   ·exact q5 (.inr ((heq b).1 q))
  ·rcases q6 with q6 | q6
   ·exact hW b q6
   ·exact .inr (Nat.le_trans f.size q6)
  ·exact fun q => q5 (.inr ((heq b).1 q))
theorem TrE.sub {E1 E0 E2:dU}{w:World}(h:TrE (E1 ++ (E0 ++ E2)) w):TrE E0 w:=by
 refine ⟨fun t ht => h.t t (List.mem_append.2 (.inr (List.mem_append.2 (.inl ht)))),?_⟩
 have := h.nd
 rw [kV,List.nodup_append,List.nodup_append] at this
 exact this.2.1.1
theorem RdV.freeV {w:World}{bad bad2:Nat → Prop}{ι ι2:Pl}:∀ (avs:List AV) (vs:List Value),iW avs = true → RdV w bad ι avs vs → RdV w bad2 ι2 avs vs
 | [],_,_,k => by simpa only [RdV] using k
 | a :: avs, vs, h, k => by
  simp only [iW,Bool.and_eq_true] at h
  simp only [RdV] at k ⊢
  obtain ⟨x,l',rfl,h1,h2⟩ := k
  exact ⟨x,l',rfl,Rd.free _ _ h.1 h1,RdV.freeV avs l' h.2 h2⟩
section
variable {P : Program} {N : Nat} {Q : Exit → AS → dU → Prop} {all : Array Oper} {rest : List Oper} {ts : List (Nat × AV)} {hs : List (Nat × Option (List AV))} {n : Nat} {z0 : Lo} {d : Nat} {ty : TypeId} {pos : String} {af : Array Edge}
theorem iC {k:FuncId}{args:Array Operand}{tys:Array TypeId}(E1 E0 E2:dU){E E0':dU}{avs:List AV}{k1:Int}[hc:CaT P k] (hE:E = E1 ++ (E0 ++ E2)) (ha:evL (lk ts) args.toList = some avs) (hf:iW avs = true) (h:I4 P k avs E0 E0' k1) (hb0:bl E0' = bl E0) (hN:Nat.blt d N = true)
  (kk : wO P N all Q (E1 ++ (E0' ++ E2)) rest ⟨(d,iv k1) :: ts,hs,n,z0⟩) : wO P N all Q E (⟨some d,.call ⟨.value (.func k),args,tys⟩,ty,pos,af,none⟩ :: rest) ⟨ts,hs,n,z0⟩ := by
 subst hE
 intro C a w hCN gT
 refine wpList_plain rfl (fun K hK => ?_)
 simp only [Oper.wp,fU hc.pf,Oper.upon]
 have hT := gT.tree
 have gT' := gT
 obtain ⟨wb,hX,f,h1,h2,h3,h0,ι,g,gh⟩ := gT'
 have hv := gF g ha
 refine (h w _ (RdV.freeV _ _ hf hv) hT.sub).mono ?_
 rintro e w' ⟨rfl,hfr,hT2⟩
 exact hK _ _ (kk C _ _ hCN ((gT.mark hfr hT2 hb0).put (hCN.symm ▸ dX hN) (r := iv k1) (bad := fun _ => False) (ι0 := fun _ => none) rfl (by simp only [Rd])))
end
def TMk (P : Program) (k : FuncId) (t t' : TD) (k0 k1 : Int) : Prop := ∀ (w : World) (y : Value) (B : List Nat),TrX w t y B → B.Nodup →
 Calls P k #[y,.int .i64 k0] w (fun e w' => e = .returned (.int .i64 k1) ∧ Fr (fun b => b ∈ B) w w' ∧ TrX w' t' y B)
theorem TMk.e {P:Program}{k:FuncId}{t t':TD}{k0 k1:Int}(h:TMk P k t t' k0 k1) (y:Value) (B:List Nat):I4 P k [.v y,iv k0] [(t,y,B)] [(t',y,B)] k1:=by
 intro w vals hv hT
 simp only [RdV,Rd] at hv
 obtain ⟨x1,l1,e1,e3,x2,l2,e2,e4,e5⟩ := hv
 rw [e1,e3,e2,e4,e5]
 have hnd : B.Nodup := by simpa [bl] using hT.nd
 refine (h w y B (hT.t _ (List.mem_singleton.2 rfl)) hnd).mono ?_
 rintro e w' ⟨rfl,hfr,hX⟩
 have eb : bl [(t,y,B)] = B := by simp [bl]
 exact ⟨rfl,by rw [eb]; exact hfr,TrE.one hX hnd⟩
theorem CL {w : World} {bad : Nat → Prop} {ι : Pl} {b : Nat} : ∀ (xs : List SX) (o : Nat), (∀ i, i < xs.length → w.cell? ⟨b, o + i * 6, none⟩ = some (.int .i64 xs[i]!.1.op) ∧ w.cell? ⟨b, o + i * 6 + 1, none⟩ = some (.int .i64 xs[i]!.1.x) ∧ w.cell? ⟨b, o + i * 6 + 2, none⟩ = some (.int .i64 xs[i]!.1.y) ∧
   w.cell? ⟨b,o + i * 6 + 3,none⟩ = some (.int .i64 xs[i]!.1.n) ∧ (w.cell? ⟨b,o + i * 6 + 4,none⟩ = some xs[i]!.2.1.1 ∧ xs[i]!.2.1.1.oneCell' = true) ∧ (w.cell? ⟨b,o + i * 6 + 5,none⟩ = some xs[i]!.2.2.1 ∧ xs[i]!.2.2.1.oneCell' = true)) → RdC w bad ι (aA cT xs) b o
 | [],_,_ => by simp only [aA,List.flatMap_nil,RdC]
 | x :: xs, o, h => by
  have e : aA cT (x :: xs) = iv x.1.op :: iv x.1.x :: iv x.1.y :: iv x.1.n :: .v x.2.1.1 :: .v x.2.2.1 :: aA cT xs := rfl
  rw [e]
  simp only [RdC]
  obtain ⟨p0,p1,p2,p3,⟨p4,q4⟩,⟨p5,q5⟩⟩ := h 0 (by simp)
  refine ⟨⟨_,by simpa using p0,rfl,by simp only [Rd]⟩,⟨_,by simpa using p1,rfl,by simp only [Rd]⟩,⟨_,by simpa using p2,rfl,by simp only [Rd]⟩,⟨_,by simpa using p3,rfl,by simp only [Rd]⟩,⟨_,by simpa using p4,by simpa using q4,by simp only [Rd]⟩,⟨_,by simpa using p5,by simpa using q5,by simp only [Rd]⟩,?_⟩
  have := CL (w := w) (bad := bad) (ι := ι) (b := b) xs (o + 6) fun i hi => by
   have := h (i + 1) (by simpa using hi)
   rw [show o + 6 + i * 6 = o + (i + 1) * 6 from by omega]
   simpa using this
  simpa [Nat.add_assoc] using this
theorem Hi {w:World}{bad:Nat → Prop}{ι:Pl}{xs:List SX}{b β c:Nat}{arr:Array Value}{el:TypeId}(h0:0 < xs.length) (q3:xs.length ≤ c) (q4:w.heap[b]? = some (.cells arr el (0,0))) (q5:β + c * 6 ≤ arr.size) (q6:RdC w bad ι (aA cT xs) b β) (hT:TrE (iT xs) w) :
  TrH w (xs.map (·.1)) (.slice (some ⟨b,β,none⟩) xs.length c) (b :: bl (iT xs)) := by
 have hl : (xs.map (·.1)).length = xs.length := by simp
 have hx : ∀ i,i < xs.length → (xs.map (·.1))[i]! = xs[i]!.1 := fun i hi => by rw [aW _ _ (by simpa using hi),aW _ _ hi,List.getElem_map]
 have hm : ∀ i, i < xs.length → TrH w xs[i]!.1.th xs[i]!.2.1.1 xs[i]!.2.1.2 ∧ TrH w xs[i]!.1.el xs[i]!.2.2.1 xs[i]!.2.2.2 := fun i hi => by
  have hin := aY xs i hi
  have h4 := hT.t (.stms xs[i]!.1.th,xs[i]!.2.1.1,xs[i]!.2.1.2) (List.mem_flatMap.2 ⟨_,hin,by simp⟩)
  have h5 := hT.t (.stms xs[i]!.1.el,xs[i]!.2.2.1,xs[i]!.2.2.2) (List.mem_flatMap.2 ⟨_,hin,by simp⟩)
  simp only [TrX] at h4 h5
  exact ⟨h4,h5⟩
 have hcell := tD xs β q6
 have htr : TrH w (xs.map (·.1)) (.slice (some ⟨b, β, none⟩) (xs.map (·.1)).length c) (b :: bl (iT xs)) := by
  refine .cons (fun i => xs[i]!.2.1.1) (fun i => xs[i]!.2.2.1) (fun i => xs[i]!.2.1.2) (fun i => xs[i]!.2.2.2) (by rw [hl]; exact h0) (by rw [hl]; exact q3) q4 q5 (fun i hi => ?_) (fun i hi => ?_) (fun i hi => ?_) (by rw [yB,hl])
  ·rw [hl] at hi;rw [hx i hi]; exact hcell i hi
  ·rw [hl] at hi;rw [hx i hi]; exact (hm i hi).1
  ·rw [hl] at hi;rw [hx i hi]; exact (hm i hi).2
 rwa [hl] at htr
theorem TrH.open {w:World}{l:List Stmt}{y:Value}{B:List Nat}(h:TrH w l y B) (hB:B.Nodup) (hn:0 < l.length):∃ (xs:List SX) (b β c:Nat) (arr:Array Value) (el:TypeId),xs.map (·.1) = l ∧ xs.length = l.length ∧ y = .slice (some ⟨b,β,none⟩) l.length c ∧ l.length ≤ c ∧ w.heap[b]? = some (.cells arr el (0,0)) ∧ β + c * 6 ≤ arr.size ∧
  B = b :: bl (iT xs) ∧ TrE (iT xs) w ∧ ∀ (bad : Nat → Prop) (ι : Pl),RdC w bad ι (aA cT xs) b β := by
 cases h with
 | nil => simp at hn
 | @cons _ b o c arr ty _ v4 v5 B4 B5 h1 h2 h3 h4 h5 h6 h7 h8 =>
  have hxl : ((List.range l.length).map fun i => ((l[i]!,(v4 i,B4 i),(v5 i,B5 i)) : SX)).length = l.length := by simp
  have hxg : ∀ i,i < l.length → ((List.range l.length).map fun i => ((l[i]!,(v4 i,B4 i),(v5 i,B5 i)) : SX))[i]! = (l[i]!,(v4 i,B4 i),(v5 i,B5 i)) := fun i hi => by rw [aW _ _ (by simpa using hi)]; simp
  have hbl : bl (iT ((List.range l.length).map fun i => ((l[i]!, (v4 i, B4 i), (v5 i, B5 i)) : SX))) = (List.range l.length).flatMap (fun i => B4 i ++ B5 i) := by
   rw [yB,hxl]
   have : ∀ (ns : List Nat), (∀ i ∈ ns, i < l.length) → ns.flatMap (fun i => ((List.range l.length).map fun i => ((l[i]!, (v4 i, B4 i), (v5 i, B5 i)) : SX))[i]!.2.1.2 ++ ((List.range l.length).map fun i => ((l[i]!, (v4 i, B4 i), (v5 i, B5 i)) : SX))[i]!.2.2.2) = ns.flatMap (fun i => B4 i ++ B5 i) := by
    intro ns
    induction ns with
    | nil => intro _; rfl
    | cons n ns ih =>
     intro hn
     rw [List.flatMap_cons,List.flatMap_cons,ih fun i hi => hn i (List.mem_cons_of_mem _ hi),hxg n (hn n (List.mem_cons_self))]
   exact this _ fun i hi => List.mem_range.1 hi
  refine ⟨(List.range l.length).map fun i => (l[i]!,(v4 i,B4 i),(v5 i,B5 i)),b,o,c,arr,ty,?_,hxl,rfl,h2,h3,h4,by rw [h8,hbl],⟨fun t ht => ?_,?_⟩,fun bad ι => CL _ _ fun i hi => ?_⟩
  ·refine List.ext_getElem (by simp) fun i a1 a2 => ?_
   rw [List.getElem_map,List.getElem_map,List.getElem_range]
   exact aW _ _ a2
  ·obtain ⟨x, hx, ht⟩ := List.mem_flatMap.1 ht
   obtain ⟨i,hi,rfl⟩ := List.mem_map.1 hx
   rw [List.mem_range] at hi
   simp only [List.mem_cons,List.not_mem_nil,or_false] at ht
   rcases ht with rfl|rfl
   ·simp only [TrX]; exact h6 i hi
   ·simp only [TrX]; exact h7 i hi
  ·rw [hbl]; rw [h8] at hB;exact (List.nodup_cons.1 hB).2
  ·rw [hxl] at hi
   rw [hxg i hi]
   obtain ⟨c0,c1,c2,c3,c4,c5⟩ := h5 i hi
   exact ⟨c0,c1,c2,c3,⟨c4,(h6 i hi).one⟩,⟨c5,(h7 i hi).one⟩⟩
theorem qR {P:Program}{k:FuncId}{fn:Func}{c:Code}{k0 k1:Int}{n e:Nat}{cs:List AV}{E:dU}{w:World}{b β cc:Nat}{arr:Array Value}{el:TypeId}{R:World → Prop}(hf:P.funcs[k]? = some fn) (hb:fn.body = some c) (hN:2 ≤ fn.ntmps)
  (x5 : w.heap[b]? = some (.cells arr el (0,0))) (x6 : β + cc * e ≤ arr.size) (x4 : n ≤ cc) (hcs : cs.length = n * e) (x9 : ∀ (bad : Nat → Prop) (ι : Pl),RdC w bad ι cs b β) (x8 : TrE E w) (hnb : b ∉ bl E) (Post : AS → dU → Prop)
  (h : dE P fn.ntmps c (fun x s E' => (x = .ret ∨ x = .normal) ∧ kC P (lk s.ts) (aO s.hs) fn.results.toList = some [iv k1] ∧ Post s E') E ⟨dY 0 [.own 0 0 n e,iv k0],[(0,some cs)],1,⟨1,cW⟩⟩)
  (fin : ∀ (s : AS) (E' : dU) (C : Ctx) (ι : Pl) (F : Nat → Prop) (w' : World),Post s E' → HG C ι F (aO s.hs) w' → ι 0 = some (some (b,β)) → TrE E' w' → iR w b ≤ iR w' b → R w') :
  Calls P k #[.slice (some ⟨b,β,none⟩) n cc,.int .i64 k0] w (fun e w' => e = .returned (.int .i64 k1) ∧ Fr (fun q => q ∈ b :: bl E) w w' ∧ R w') := by
 refine calls_of_wp hf hb ?_
 let C : Ctx := { N := fn.ntmps,w0 := w,W0 := fun q => q ∈ b :: bl E,X := fun _ => False,ι0 := fun id => if id = 0 then some (some (b,β)) else none,xlt := fun _ q => q.elim }
 have hX : ∀ q,C.X q ∨ q ∈ bl E → q < w.heap.size := fun q hq => hq.elim (fun q => q.elim) (x8.lt q)
 have hι : ∀ id c', aO [(0, some cs)] id = some c' → id = 0 ∧ c' = cs := fun id c' hq => by
  rw [dS] at hq
  split at hq
  ·rename_i e;cases hq;exact ⟨e,rfl⟩
  ·simp [aO] at hq
 have gh : HG (iU C w E hX) C.ι0 (Fn 1 ⟨1, cW⟩) (aO [(0, some cs)]) w := by
  refine ⟨fun id c' hq => ?_,fun id id' c1 c2 q β1 β2 h1 h2 _ _ => by rw [(hι _ _ h1).1,(hι _ _ h2).1],Fr.refl _ _,fun _ _ h => h,fun id hid => ?_⟩
  ·obtain ⟨rfl, rfl⟩ := hι id c' hq
   refine .inr ⟨b,β,arr,el,rfl,x5,?_,x9 _ _,?_,.inl ⟨.inl (List.mem_cons_self),hnb⟩⟩
   ·rw [hcs]; have := Nat.mul_le_mul_right e x4;omega
   ·rintro (q | q)
    ·exact q
    ·exact hnb q
  ·have : 1 ≤ id := hid.1
   show (if id = 0 then _ else _) = none
   rw [if_neg (by omega)]
 have hv : RdV w (aH (iU C w E hX).X C.ι0 (aO [(0, some cs)])) C.ι0 [.own 0 0 n e, iv k0] [.slice (some ⟨b, β, none⟩) n cc, .int .i64 k0] := by
  simp only [RdV]
  refine ⟨_,_,rfl,?_,_,_,rfl,by simp only [Rd],rfl⟩
  simp only [Rd]
  exact .inr ⟨b,β,cc,rfl,rfl,x4,by unfold iR;rw [x5]; simpa using x6⟩
 have gt : TG (iU C w E hX) C.ι0 (lk (dY 0 [.own 0 0 n e, iv k0])) (aO [(0, some cs)]) { tmps := [Value.slice (some ⟨b, β, none⟩) n cc, .int .i64 k0].toArray ++ Array.replicate (fn.ntmps - [Value.slice (some ⟨b, β, none⟩) n cc, .int .i64 k0].toArray.size) undef, defers := [] } w := by
  refine ⟨rfl,by simp [iU,C]; omega,fun t av ht => ?_⟩
  obtain ⟨y,_,h1,h2⟩ := iY hv ht
  refine ⟨y,?_,h2⟩
  have hlt : t < [Value.slice (some ⟨b, β, none⟩) n cc, .int .i64 k0].length := by
   rcases Nat.lt_or_ge t [Value.slice (some ⟨b,β,none⟩) n cc,.int .i64 k0].length with q|q
   ·exact q
   ·rw [List.getElem?_eq_none (by simpa using q)] at h1;cases h1
  rw [Array.getElem?_append_left (by simpa using hlt)]
  simpa using h1
 have gT : GsT C ⟨dY 0 [.own 0 0 n e, iv k0], [(0, some cs)], 1, ⟨1, cW⟩⟩ E { tmps := [Value.slice (some ⟨b, β, none⟩) n cc, .int .i64 k0].toArray ++ Array.replicate (fn.ntmps - [Value.slice (some ⟨b, β, none⟩) n cc, .int .i64 k0].toArray.size) undef, defers := [] } w :=
  ⟨w,hX,Fr.refl _ _,fun q hq => .inr (List.mem_cons_of_mem _ hq),fun _ _ q => q,x8,fun id hid => .inr (if_neg (by have : 1 ≤ id := hid;omega)),C.ι0,gt,gh⟩
 refine wp_mono (h C _ w rfl gT) ?_
 rintro x a' w' ⟨s1,E',⟨he,hres,hP⟩,gT'⟩
 have hT' := gT'.tree
 have gD := gT'.drop
 have hfr : Fr (fun q => q ∈ b :: bl E) w w' := by obtain ⟨_,_,_,gh'⟩ := gD;exact gh'.fr
 obtain ⟨wb,hX',f,p1,p2,p3,h0',ι,g1,g2⟩ := gT'
 obtain ⟨ys,q1,q2⟩ := lT (P := P) g1 g2 hres
 have hys : ys = [.int .i64 k1] := by
  simp only [RdV,Rd] at q2
  obtain ⟨_,_,rfl,rfl,rfl⟩ := q2
  rfl
 subst hys
 have hres' : (results fn a'.tmps).run P w' = .ok (.int .i64 k1) w' := by
  have hr1 : results fn a'.tmps = (do let vs ← fn.results.mapM (rS a'); pure (if h : vs.size = 1 then vs[0] else .tuple vs)) := by
   unfold results
   congr 1
  rw [hr1,Array.mapM_eq_mapM_toList,Sem.run_bind,Sem.run_map,q1]
  simp only [Result.andThen_ok,Sem.run_pure]
  rfl
 have hR := fin s1 E' _ ι _ w' hP g2 (g2.ex 0 (some (b,β)) rfl) hT' (hfr.bs b)
 rcases he with rfl|rfl
 ·exact ⟨g1.df,_,hres',rfl,hfr,hR⟩
 ·exact ⟨g1.df,_,hres',rfl,hfr,hR⟩
theorem uU {P:Program}{k:FuncId}{k0 k1:Int}{av:AV}{w:World}{y:Value}(hp:PC P k [av,iv k0] (fun r => r = iv k1)) (hy:Rd w (fun _ => False) (fun _ => none) av y) :
  Calls P k #[y,.int .i64 k0] w (fun e w' => e = .returned (.int .i64 k1) ∧ Fr (fun _ => False) w w') := by
 have hT := dR hp rfl
 refine (hT w (fun _ => False) [y,.int .i64 k0] (fun _ q => q.elim) (by simp only [RdV]; exact ⟨_,_,rfl,hy,_,_,rfl,by simp only [Rd],rfl⟩)).mono ?_
 rintro e w' ⟨v,r,E,rfl,⟨rfl,rfl⟩,_,hr,hfr,_,_⟩
 simp only [Rd] at hr
 subst hr
 exact ⟨rfl,hfr⟩
theorem Fr.wide {W:Nat → Prop}{w w':World}(h:Fr (fun _ => False) w w'):Fr W w w' := ⟨h.os,h.tape,h.output,h.size,fun k hk _ => h.block k hk (fun q => q),h.bs⟩
theorem Cg {P:Program}{k:FuncId}{fn:Func}{c:Code}{l l':List Int}{k0 k1:Int}(hf:P.funcs[k]? = some fn) (hb:fn.body = some c) (hN:2 ≤ fn.ntmps) (hl:l'.length = l.length) (h0:l = [] → PC P k [sl cI [],iv k0] (fun r => r = iv k1))
  (h : 0 < l.length → AW P fn.ntmps c (fun x s => (x = .ret ∨ x = .normal) ∧ kC P (lk s.ts) (aO s.hs) fn.results.toList = some [iv k1] ∧ aO s.hs 0 = some (aA cI l')) ⟨dY 0 [.own 0 0 l.length 1,iv k0],[(0,some (aA cI l))],1,⟨1,cW⟩⟩) : TMk P k (.ints l) (.ints l') k0 k1 := by
 intro w y B ht hB
 simp only [TrX] at ht
 cases ht with
 | @nil a cc =>
  have e0 : l' = [] := List.eq_nil_of_length_eq_zero hl
  subst e0
  refine (uU (h0 rfl) (show Rd w _ _ (.imm 0 _) (.slice a 0 cc) by simp only [Rd]; exact ⟨a,cc,rfl,.inl trivial⟩)).mono ?_
  rintro e w' ⟨rfl,hfr⟩
  exact ⟨rfl,hfr.wide,by simp only [TrX]; exact .nil⟩
 | @cons _ b β cc arr el x1 x4 x5 x6 x7 =>
  have h' := h x1
  refine (qR (E := []) (n := l.length) (e := 1) (cs := aA cI l) (R := fun w' => TrX w' (.ints l') (.slice (some ⟨b, β, none⟩) l.length cc) [b]) hf hb hN x5 (by omega) x4 (aI cI (e := 1) l) (fun bad ι => rR l β x7) ⟨fun t ht => (by cases ht), List.nodup_nil⟩ (fun q => by cases q)
   (fun s E' => E' = [] ∧ aO s.hs 0 = some (aA cI l')) (awt_lift fun C a w hN g => wp_mono (h' C a w hN g) fun e a' w' ⟨s',⟨q1,q2,q3⟩,q4⟩ => ⟨s',⟨q1,q2,rfl,q3⟩,q4⟩) ?_).mono ?_
  ·rintro s E' C ι F w' ⟨rfl, r1⟩ g2 hι0 _ hbs
   rcases g2.obj 0 _ r1 with ⟨q,_⟩ | ⟨b',β',arr',el',q,q4,q5,q6,q7,q8⟩
   ·rw [q] at hι0;cases hι0
   ·rw [q] at hι0; cases hι0
    have hsz : β + cc ≤ arr'.size := by
     unfold iR at hbs
     rw [x5,q4] at hbs
     exact Nat.le_trans x6 hbs
    simp only [TrX]
    rw [← hl]
    exact .cons (by omega) (by omega) q4 hsz (lR l' β q6)
  ·rintro e w' ⟨rfl, hfr, hR⟩
   exact ⟨rfl,hfr,hR⟩
theorem Dn {P:Program}{k:FuncId}{fn:Func}{c:Code}{l l':List Stmt}{k0 k1:Int}(hf:P.funcs[k]? = some fn) (hb:fn.body = some c) (hN:2 ≤ fn.ntmps) (h0:l = [] → l' = [] ∧ PC P k [sl aP [],iv k0] (fun r => r = iv k1))
  (h : 0 < l.length → ∀ xs : List SX, xs.map (·.1) = l → dE P fn.ntmps c (fun x s E' => (x = .ret ∨ x = .normal) ∧ kC P (lk s.ts) (aO s.hs) fn.results.toList = some [iv k1] ∧ ∃ xs', aO s.hs 0 = some (aA cT xs') ∧ E' = iT xs' ∧ xs'.map (·.1) = l' ∧ xs'.map (·.2) = xs.map (·.2)) (iT xs)
   ⟨dY 0 [.own 0 0 l.length 6,iv k0],[(0,some (aA cT xs))],1,⟨1,cW⟩⟩) : TMk P k (.stms l) (.stms l') k0 k1 := by
 intro w y B ht hB
 simp only [TrX] at ht
 rcases Nat.eq_zero_or_pos l.length with hl|hl
 ·have hl0 : l = [] := List.eq_nil_of_length_eq_zero hl
  obtain ⟨e0,hp⟩ := h0 hl0
  subst hl0 e0
  cases ht with
  | @nil a cc =>
   refine (uU hp (show Rd w _ _ (.imm 0 _) (.slice a 0 cc) by simp only [Rd]; exact ⟨a,cc,rfl,.inl trivial⟩)).mono ?_
   rintro e w' ⟨rfl,hfr⟩
   exact ⟨rfl,hfr.wide,by simp only [TrX]; exact .nil⟩
  | cons _ _ _ _ h1 => simp at h1
 ·obtain ⟨xs, b, β, cc, arr, el, x1, x2, rfl, x4, x5, x6, rfl, x8, x9⟩ := ht.open hB hl
  have hnb := List.nodup_cons.1 hB
  refine (qR (E := iT xs) (n := l.length) (e := 6) (cs := aA cT xs) (R := fun w' => TrX w' (.stms l') (.slice (some ⟨b,β,none⟩) l.length cc) (b :: bl (iT xs))) hf hb hN x5 x6 x4 (by rw [aI cT (e := 6),x2]) x9 x8 hnb.1 _ (h hl xs x1) ?_)
  rintro s E' C ι F w' ⟨xs',r1,rfl,r3,r4⟩ g2 hι0 hT' hbs
  have r5 : xs'.length = xs.length := by have := congrArg List.length r4;simpa using this
  have r6 : bl (iT xs') = bl (iT xs) := by
   have : ∀ zs : List SX, bl (iT zs) = (zs.map (·.2)).flatMap fun x => x.1.2 ++ x.2.2 := fun zs => by
    unfold bl iT
    rw [List.flatMap_assoc,List.flatMap_map]
    congr 1
    funext x
    simp
   rw [this,this,r4]
  rcases g2.obj 0 _ r1 with ⟨q,_⟩ | ⟨b',β',arr',el',q,q4,q5,q6,q7,q8⟩
  ·rw [q] at hι0;cases hι0
  ·rw [q] at hι0; cases hι0
   have hsz : β + cc * 6 ≤ arr'.size := by
    unfold iR at hbs
    rw [x5,q4] at hbs
    exact Nat.le_trans x6 hbs
   have := Hi (c := cc) (by rw [r5,x2]; exact hl) (by rw [r5,x2]; exact x4) q4 hsz q6 hT'
   rw [r3,r5,x2,r6] at this
   simp only [TrX]
   exact this
theorem GsT.drew {C:Ctx}{s:AS}{E:dU}{a:Act}{w:World}(h:GsT C s E a w):GsT C s E a { w with drawn := w.drawn + 1 }:=by
 obtain ⟨wb,hX,f,h1,h2,h3,h0,ι,g,gh⟩ := h
 obtain ⟨g1,c1⟩ := l9 gh
 exact ⟨wb,hX,f,h1,h2,h3,h0,ι,g.carry c1,g1⟩
def DW (P : Program) (N : Nat) (all : Array Oper) (Q : Exit → AS → dU → Prop) (E : dU) (fuel : Nat) (listed : Array Bool) (s : AS) : Prop :=
 ∀ (C : Ctx) (a : Act) (w : World),C.N = N → GsT C s E a w → wpAny P .any all (fun e a' w' => ∃ s' E',Q e s' E' ∧ GsT C s' E' a' w') fuel listed a w
section
variable {P : Program} {N : Nat} {Q : Exit → AS → dU → Prop} {E : dU} {all : Array Oper} {s : AS} {fuel : Nat} {listed : Array Bool}
theorem u7 {is:List Nat}(hr:Region.ready .any all listed = is) (hne:is ≠ []) (h:∀ i ∈ is,∃ o,all[i]? = some o ∧ wO P N all (fun e s' E' => e = .normal ∧ DW P N all Q E' fuel (listed.setIfInBounds i true) s') E [o] s):DW P N all Q E (fuel + 1) listed s:=by
 intro C a w hN g
 refine ⟨fun h0 => absurd (hr.symm.trans h0) hne,fun i hi => ?_⟩
 rw [hr] at hi
 obtain ⟨o,ho,hw⟩ := h i hi
 have hq := hw C a w hN g
 have hL : ¬ LetsOut (fun e a' w' => ∃ s' E',(e = Exit.normal ∧ DW P N all Q E' fuel (listed.setIfInBounds i true) s') ∧ GsT C s' E' a' w') := fun ⟨a,w,s',E',⟨q,_⟩,_⟩ => by cases q
 have hk : ∀ a w, wpList P all (fun e a' w' => ∃ s' E', (e = Exit.normal ∧ DW P N all Q E' fuel (listed.setIfInBounds i true) s') ∧ GsT C s' E' a' w') [] a w → wpAny P .any all (fun e a' w' => ∃ s' E', Q e s' E' ∧ GsT C s' E' a' w') fuel (listed.setIfInBounds i true) a w := by
  intro a w hk
  unfold wpList at hk
  obtain ⟨s',E',⟨_,hA⟩,hg⟩ := hk
  exact hA C a w hN hg
 unfold wpOp
 rw [ho]
 dsimp only
 unfold wpList at hq
 split
 ·rename_i hwn
  rw [if_pos hwn] at hq
  rcases hq with hq | ⟨_,hq⟩
  ·exact .inl (CY hk (fun e a w ⟨s',E',⟨he,_⟩,_⟩ => he) hq)
  ·exact absurd hq hL
 ·rename_i hwn
  rw [if_neg hwn] at hq
  exact hk _ _ hq
theorem qA {i:Nat}{o:Oper}(hr:Region.ready .any all listed = [i]) (ho:all[i]? = some o) (h:wO P N all (fun e s' E' => e = .normal ∧ DW P N all Q E' fuel (listed.setIfInBounds i true) s') E [o] s):DW P N all Q E (fuel + 1) listed s :=
 u7 hr (by simp) fun j hj => by rw [List.mem_singleton] at hj;subst hj;exact ⟨o,ho,h⟩
theorem IE {i i':Nat}{o o':Oper}(hr:Region.ready .any all listed = [i,i']) (ho:all[i]? = some o) (ho':all[i']? = some o') (h:wO P N all (fun e s' E' => e = .normal ∧ DW P N all Q E' fuel (listed.setIfInBounds i true) s') E [o] s)
  (h' : wO P N all (fun e s' E' => e = .normal ∧ DW P N all Q E' fuel (listed.setIfInBounds i' true) s') E [o'] s) : DW P N all Q E (fuel + 1) listed s :=
 u7 hr (by simp) fun j hj => by
  simp only [List.mem_cons,List.not_mem_nil,or_false] at hj
  rcases hj with rfl|rfl
  ·exact ⟨o,ho,h⟩
  ·exact ⟨o',ho',h'⟩
theorem GI (h:Q .normal s E) (hr:Region.ready .any all listed = []):DW P N all Q E fuel listed s:=by
 intro C a w hN g
 cases fuel with
 | zero => exact ⟨hr,s,E,h,g⟩
 | succ n => exact ⟨fun _ => ⟨s,E,h,g⟩,fun i hi => by rw [hr] at hi;cases hi⟩
theorem FQ {id:Nat}{l:List Oper}(hm:P.follows .mixedOrders = true) (h:DW P N l.toArray Q E l.length (Array.replicate l.length false) s):dE P N (.region id l.toArray true) Q E s:=by
 intro C a w hN g
 refine wp_region_any hm ?_
 have := h C a _ hN g.drew
 simpa using this
end
theorem Bt {P:Program}{N:Nat}{Q:Exit → AS → dU → Prop}{E:dU}{all:Array Oper}{rest:List Oper}{s:AS}{ty:TypeId}{pos:String}{af:Array Edge}{dst:Option Tmp}{op:Op}{j e:Nat}{want b:Bool}(hj:(all[j]?).bind (·.dst) = some e) (hb:lk s.ts e = some (.v (.bool b))) (hw:b = want) (h:wO P N all Q E (⟨dst,op,ty,pos,af,none⟩ :: rest) s) :
  wO P N all Q E (⟨dst,op,ty,pos,af,some (j,want)⟩ :: rest) s := by
 subst hw
 intro C a w hN g
 have h' := h C a w hN g
 obtain ⟨wb,hX,f,h1,h2,h3,h0,ι,g,gh⟩ := g
 have hyl : yielded all a.tmps j = some b := by
  obtain ⟨y,hy,hr⟩ := g.tm e _ hb
  simp only [Rd] at hr
  subst hr
  simp [yielded,hj,hy]
 unfold wpList at h' ⊢
 simp only [Region.wanted,hyl,if_true,beq_self_eq_true] at h' ⊢
 exact h'
def zO (m : List (Nat × Nat)) (lo : Lo) (l : List (Nat × AV)) : List (Nat × AV) → Prop
 | [] => True
 | (t,v) :: l' => (∃ v0,lk l t = some v0 ∧ (p7 m lo v v0 ∨ v0 = v ∧ ∃ fn i o,v = .clos fn [] [.optr i o] ∧ i < lo.lo)) ∧ zO m lo l l'
theorem tT {m:List (Nat × Nat)}{lo:Lo}{l:List (Nat × AV)}:∀ {l':List (Nat × AV)},zO m lo l l' → ∀ t v,lk l' t = some v → ∃ v0,lk l t = some v0 ∧ (p7 m lo v v0 ∨ v0 = v ∧ ∃ fn i o,v = .clos fn [] [.optr i o] ∧ i < lo.lo)
 | [],_,t,v,h => by simp [lk] at h
 | (u, x) :: l', hr, t, v, h => by
  simp only [zO] at hr
  simp only [kI] at h
  split at h
  ·rename_i e;subst e;cases h;exact hr.1
  ·exact tT hr.2 t v h
theorem Le.renK (m:List (Nat × Nat)){ts ts':List (Nat × AV)}{hs hs':List (Nat × Option (List AV))}{n n':Nat}{lo:Lo}(hm:Gk lo.lo n' m = true) (hn:lo.lo ≤ n') (h1:zO m lo ts ts') (h2:uS m lo hs hs') :
  Le ⟨ts,hs,n,lo⟩ ⟨ts',hs',n',lo⟩ := by
 rintro C a w ⟨h0,ι,g,gh⟩
 let ι' : Pl := fun id => match l0 m lo id with|some j => ι j|none => none
 have hlow : ∀ id,id < lo.lo → ι' id = ι id := fun id h => by simp [ι',l0,h]
 have hto : ∀ id j, l0 m lo id = some j → ι' id = ι j := by
  intro id j h
  simp only [ι',h]
 have hcs0 : ∀ a b, l0 m lo a = some b → (a < lo.lo ∧ b = a) ∨ (lo.lo ≤ a ∧ uX m a = some b) ∨ (lo.lo ≤ a ∧ (cW ≤ a ∧ a < lo.fb) ∧ b = a) := by
  intro a b q
  unfold l0 at q
  split at q
  ·rename_i h;cases q;exact .inl ⟨h,rfl⟩
  ·rename_i h
   split at q
   ·rename_i j hj;cases q;exact .inr (.inl ⟨by omega,hj⟩)
   ·split at q
    ·rename_i h3;cases q;exact .inr (.inr ⟨by omega,h3,rfl⟩)
    ·cases q
 have hinj : ∀ a a' b, l0 m lo a = some b → l0 m lo a' = some b → a = a' := by
  intro a a' b q q'
  rcases hcs0 a b q with ⟨e1,e2⟩ | ⟨e1,e2⟩ | ⟨e1,e2,e3⟩ <;> rcases hcs0 a' b q' with ⟨f1,f2⟩ | ⟨f1,f2⟩ | ⟨f1,f2,f3⟩
  ·omega
  ·have := dQ hm _ _ f2;omega
  ·omega
  ·have := dQ hm _ _ e2;omega
  ·exact tG hm _ _ _ e2 f2
  ·have := dQ hm _ _ e2;omega
  ·omega
  ·have := dQ hm _ _ f2;omega
  ·omega
 have hbad : ∀ b, aH C.X ι' (aO hs') b → aH C.X ι (aO hs) b := by
  rintro b (h | ⟨id,cs,β,q1,q2⟩)
  ·exact .inl h
  ·obtain ⟨j, cs0, q3, q4, _⟩ := fG h2 id cs q1
   rw [hto _ _ q3] at q2
   exact .inr ⟨j,cs0,β,q4,q2⟩
 have hc0 : Carry w (aH C.X ι (aO hs)) ι w (aH C.X ι' (aO hs')) ι := ⟨fun b o x q1 q2 => ⟨fun h => q1 (hbad b h),q2⟩,fun _ _ h => h,fun _ => Nat.le_refl _⟩
 have hv : ∀ v v0 y, p7 m lo v v0 → Rd w (aH C.X ι (aO hs)) ι v0 y → Rd w (aH C.X ι' (aO hs')) ι' v y := by
  intro v v0 y hr hy
  rcases hr with ⟨rfl,hp⟩|hr
  ·exact Rd.pur _ y hp (Rd.carry hc0 _ _ hy)
  ·cases v <;> simp only [FV] at hr <;> first | (cases hr; done) | skip
   ·rename_i id o k e
    cases hj : l0 m lo id with
    | none => simp [hj] at hr
    | some j =>
     simp only [hj,Option.map_some,Option.some.injEq] at hr
     subst hr
     simp only [Rd,hto _ _ hj] at hy ⊢
     exact hy
   ·rename_i id o
    cases hj : l0 m lo id with
    | none => simp [hj] at hr
    | some j =>
     simp only [hj,Option.map_some,Option.some.injEq] at hr
     subst hr
     simp only [Rd,hto _ _ hj] at hy ⊢
     exact hy
 have hcs : ∀ cs cs0 b o, F6 m lo cs cs0 → RdC w (aH C.X ι (aO hs)) ι cs0 b o → RdC w (aH C.X ι' (aO hs')) ι' cs b o := by
  intro cs cs0 b o hr hy
  rcases hr with ⟨rfl,hp⟩|hf
  ·exact RdC.pur _ b o hp (RdC.carryB hc0 _ _ _ (fun o x hx => hx) hy)
  ·induction hf generalizing o with
   | nil => simp only [RdC]
   | cons h1 _ ih =>
    simp only [RdC] at hy ⊢
    obtain ⟨⟨x,q1,q2,q3⟩,q4⟩ := hy
    exact ⟨⟨x,q1,q2,hv _ _ _ h1 q3⟩,ih _ q4⟩
 have hvK : ∀ v v0 y, (p7 m lo v v0 ∨ v0 = v ∧ ∃ fn i o, v = .clos fn [] [.optr i o] ∧ i < lo.lo) → Rd w (aH C.X ι (aO hs)) ι v0 y → Rd w (aH C.X ι' (aO hs')) ι' v y := by
  rintro v v0 y (hr | ⟨rfl,fn,i,o,rfl,hi⟩) hy
  ·exact hv v v0 y hr hy
  ·simp only [Rd, RdV] at hy ⊢
   rw [hlow i hi]; exact hy
 refine ⟨h0,ι',⟨g.df,g.sz,fun t v ht => ?_⟩,⟨fun id cs h => ?_,fun id id' cs cs' b β β' q1 q2 q3 q4 => ?_,gh.fr,fun id p hp => ?_,fun id hid => ?_⟩⟩
 ·obtain ⟨v0, q1, q2⟩ := tT h1 t v ht
  obtain ⟨y,q3,q4⟩ := g.tm t v0 q1
  exact ⟨y,q3,hvK _ _ _ q2 q4⟩
 ·obtain ⟨j, cs0, q3, q4, q5⟩ := fG h2 id cs h
  have hlen : cs.length = cs0.length := by
   rcases q5 with ⟨rfl,_⟩|hf
   ·rfl
   ·exact hf.len
  rcases gh.obj j cs0 q4 with ⟨p1,p2⟩ | ⟨b,β,arr,e,p1,p2,p3,p4,p5,p6⟩
  ·refine .inl ⟨by rw [hto _ _ q3]; exact p1, ?_⟩
   subst p2;exact List.eq_nil_of_length_eq_zero hlen
  ·exact .inr ⟨b,β,arr,e,by rw [hto _ _ q3]; exact p1,p2,by rw [hlen]; exact p3,hcs _ _ _ _ q5 p4,p5,p6⟩
 ·obtain ⟨j, c1, r1, r2, _⟩ := fG h2 id cs q1
  obtain ⟨j',c2,r3,r4,_⟩ := fG h2 id' cs' q2
  rw [hto _ _ r1] at q3
  rw [hto _ _ r3] at q4
  have := gh.sep _ _ _ _ _ _ _ r2 r4 q3 q4
  subst this
  exact hinj _ _ _ r1 r3
 ·have hl : id < lo.lo ∨ (lo.lo ≤ id ∧ cW ≤ id ∧ id < lo.fb) := by
   rcases Nat.lt_or_ge id lo.lo with h|h
   ·exact .inl h
   ·rcases h0 id h with h1 | h1
    ·exact .inr ⟨h,h1⟩
    ·rw [h1] at hp;cases hp
  rcases hl with hl | ⟨hl,h1,h2⟩
  ·rw [hlow id hl]; exact gh.ex id p hp
  ·have : l0 m lo id = some id := by
    unfold l0
    rw [if_neg (by omega)]
    cases hj : uX m id with
    | some j => have := dQ hm _ _ hj;omega
    | none => simp [h1,h2]
   rw [hto _ _ this]; exact gh.ex id p hp
 ·show ι' id = none
  simp only [ι']
  cases hj : l0 m lo id with
  | none => rfl
  | some j =>
   have h3 : n' ≤ id := hid.1
   have h4 : id < cW ∨ lo.fb ≤ id := hid.2
   rcases hcs0 id j hj with ⟨e1,e2⟩ | ⟨e1,e2⟩ | ⟨e1,e2,e3⟩
   ·omega
   ·have := dQ hm _ _ e2;omega
   ·omega
end Go.AL
