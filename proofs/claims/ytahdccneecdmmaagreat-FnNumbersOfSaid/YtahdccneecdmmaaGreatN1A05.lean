/-
 A part of the proofs over this program: rules and contracts of its functions (the rules).
-/
import Derived.Test.YtahdccneecdmmaaGreatN1A04
import Derived.Laws.BytesString
import Derived.Laws.StructEq
set_option linter.unusedVariables false
set_option linter.unusedSimpArgs false
namespace Go.AL
open Go.RowKit
section
variable {P : Program} {N : Nat} {Q : Exit → AS → Prop}
theorem Le.litF {ts ts':List (Nat × AV)}{hs lits:List (Nat × Option (List AV))}{n n':Nat}{z0 z1:Lo}{R:List (List Bool)}(h1:k0 ts ts') (h2:jT hs lits) (h3:n ≤ n') (hF:FamR R R hs hs) (hz:z0 = z1) :
  Le ⟨ts,hs,n,z0⟩ ⟨ts',lits ++ dY R,n',z1⟩ := by
 refine Le.of (qY h1) (fun i c h => ?_) h3 hz
 rcases mQ h with h|h
 ·exact kQ h2 i c h
 ·obtain ⟨k, hk, rfl, rfl⟩ := gN h
  exact hF.get hk
theorem BB {σ:Type}{c:Code}{ts:List (Nat × AV)}{hs:List (Nat × Option (List AV))}{n:Nat}{z0:Lo}(l0:Nat) (Rf:σ → List (List Bool)) (ks:List Nat) (kt:List (Nat × AV)) (js:List Nat) (kh:List (Nat × Option (List AV)))
  (ot : σ → List (Nat × AV)) (oh : σ → List (Nat × Option (List AV))) (p : σ → Prop) (μ : σ → Nat) (i0 : σ) (h0 : p i0) (hk : kO ks ts = kt) (hj : lI js hs = kh)
  (h1 : k0 ts (ot i0)) (h2 : jT hs (oh i0)) (hF : FamR (Rf i0) (Rf i0) hs hs) (hz : z0 = ⟨l0,aU + (Rf i0).length⟩)
  (round : ∀ i,p i → AW P N c (kS (fun s' => ∃ j,p j ∧ μ j < μ i ∧ Le s' ⟨ot j ++ kt,(oh j ++ kh) ++ dY (Rf j),n,⟨l0,aU + (Rf j).length⟩⟩) Q) ⟨ot i ++ kt,(oh i ++ kh) ++ dY (Rf i),n,⟨l0,aU + (Rf i).length⟩⟩) :
  AW P N (.loop c) Q ⟨ts,hs,n,z0⟩ := by
 subst hk hj
 exact yU p (fun i => ⟨ot i ++ kO ks ts,(oh i ++ lI js hs) ++ dY (Rf i),n,⟨l0,aU + (Rf i).length⟩⟩) μ ⟨i0,h0,Le.litF (iV h1 (iY ks)) (iU h2 (j9 js)) (Nat.le_refl _) hF hz⟩ round
end
def sB (P : Program) (k : FuncId) (args : List AV) (H0 : Nat → Option (List AV)) (F0 : Nat → Prop) (Q : AV → (Nat → Option (List AV)) → Prop) : Prop :=
 ∀ (C : Ctx) (ι : Pl) (w : World) (vals : List Value), C.w0 = w → C.ι0 = ι → HG C ι F0 H0 w → RdV w (aF C.X ι H0) ι args vals →
  Calls P k vals.toArray w (fun e w' => ∃ v r H' ι',e = .returned v ∧ Q r H' ∧ Rd w' (aF C.X ι' H') ι' r v ∧ HG C ι' (fun _ => False) H' w')
theorem kM {P:Program}{k:FuncId}{fn:Func}{c:Code}{args:List AV}{H0:List (Nat × Option (List AV))}{n fb:Nat}{Q:AV → (Nat → Option (List AV)) → Prop}(hf:P.funcs[k]? = some fn) (hb:fn.body = some c)
  (hN : args.length ≤ fn.ntmps) (h : AW P fn.ntmps c (kY P fn.results Q) ⟨fF 0 args,H0,n,⟨n,fb⟩⟩) : sB P k args (aN H0) (Fn n ⟨n,fb⟩) Q := by
 intro C ι w vals hw hι g hr
 refine calls_of_wp hf hb ?_
 let C' : Ctx := { C with N := fn.ntmps }
 have hlen := RdV.length hr
 have g' : HG C' ι (Fn n ⟨n,fb⟩) (aN H0) w := ⟨g.obj,g.sep,g.fr,g.ex,g.fresh⟩
 have gt : TG C' ι (lk (fF 0 args)) (aN H0) { tmps := vals.toArray ++ Array.replicate (fn.ntmps - vals.toArray.size) undef, defers := [] } w := by
  refine ⟨rfl,by simp [C',hlen]; omega,fun t av ht => ?_⟩
  obtain ⟨y,_,h1,h2⟩ := n6 hr ht
  refine ⟨y,?_,h2⟩
  have hlt : t < vals.length := by
   rcases Nat.lt_or_ge t vals.length with q|q
   ·exact q
   ·rw [List.getElem?_eq_none (by simpa using q)] at h1;cases h1
  rw [Array.getElem?_append_left (by simpa using hlt)]
  simpa using h1
 refine wp_mono (h C' _ w rfl ⟨fun id hid => ?_,ι,gt,g'⟩) ?_
 ·by_cases q : aU ≤ id ∧ id < fb
  ·exact .inl q
  ·refine .inr ?_
   show C.ι0 id = none
   rw [hι]
   exact g.fresh id ⟨hid,by show id < aU ∨ fb ≤ id;omega⟩
 rintro e a' w' ⟨s1,⟨he,s',l,hle,hres,hQ⟩,hg⟩
 obtain ⟨_,ι',g1,g2⟩ := hle C' a' w' hg
 obtain ⟨ys,h1,h2⟩ := sN (P := P) g1 g2 hres
 have hres' : (results fn a'.tmps).run P w' = .ok (if h : ys.toArray.size = 1 then ys.toArray[0] else .tuple ys.toArray) w' := by
  have hr1 : results fn a'.tmps = (do let vs ← fn.results.mapM (xF a'); pure (if h : vs.size = 1 then vs[0] else .tuple vs)) := by
   unfold results
   congr 1
  rw [hr1,Array.mapM_eq_mapM_toList,Sem.run_bind,Sem.run_map,h1]
  simp only [Result.andThen_ok,Sem.run_pure]
 have g3 : HG C ι' (fun _ => False) (aN s'.hs) w' := ⟨g2.obj,g2.sep,g2.fr,g2.ex,fun _ h => h.elim⟩
 rcases he with rfl|rfl
 ·exact ⟨g1.df,_,hres',_,_,_,ι',rfl,hQ,kF h2,g3⟩
 ·exact ⟨g1.df,_,hres',_,_,_,ι',rfl,hQ,kF h2,g3⟩
def pC (mpF fr : Nat → Option Nat) (j : Nat) : Option Nat := match mpF j with | some i => some i | none => fr j
theorem vO {P:Program}{k:FuncId}{args args':List AV}{H0 hh:Nat → Option (List AV)}{F0:Nat → Prop}{mpF fr fi:Nat → Option Nat}{r rr':AV}{H2:Nat → Option (List AV)}
  (h : sB P k args H0 F0 (fun r' H' => r' = r ∧ ∀ j cs,hh j = some cs → H' j = some cs)) (hmi : ∀ j j' i,mpF j = some i → mpF j' = some i → j = j') (hfi : ∀ i j,fi i = some j ↔ fr j = some i) (hmf : ∀ j i,fr j = some i → mpF j = none) (hF0 : ∀ j,F0 j → mpF j = none)
  {C : Ctx} {ι : Pl} {F : Nat → Prop} {H : Nat → Option (List AV)} {w : World} (g : HG C ι F H w)
  (hH0 : ∀ j i,mpF j = some i → ∃ cs cs',H0 j = some cs ∧ H i = some cs' ∧ RnL mpF cs cs') (hH1 : ∀ j cs,H0 j = some cs → ∃ i,mpF j = some i)
  (ha : RnL mpF args args') (hF : ∀ j i,fr j = some i → F i) (hr : RnV (pC mpF fr) r rr')
  (hw : ∀ i cs',H2 i = some cs' → (∃ j cs,pC mpF fr j = some i ∧ hh j = some cs ∧ RnL (pC mpF fr) cs cs') ∨ (H i = some cs' ∧ ∀ j,mpF j ≠ some i))
  {vals : List Value} (hv : RdV w (aF C.X ι H) ι args' vals) :
  Calls P k vals.toArray w (fun e w' => ∃ v ι',e = .returned v ∧ HG C ι' (fun j => F j ∧ fi j = none) H2 w' ∧ Carry w (aF C.X ι H) ι w' (aF C.X ι' H2) ι' ∧ Rd w' (aF C.X ι' H2) ι' rr' v) := by
 let W0 : Nat → Prop := fun b => ∃ (j i β : Nat),mpF j = some i ∧ ι i = some (some (b,β))
 let Xc : Nat → Prop := fun b => aF C.X ι H b ∧ ¬ W0 b
 let ιc : Pl := fun j => match mpF j with|some i => ι i|none => none
 let C' : Ctx := { N := 0,w0 := w,W0 := W0,X := Xc,ι0 := ιc,xlt := fun b hb => g.bad_lt b hb.1 }
 have hW0 : ∀ b, W0 b → ¬ C.X b ∧ (C.W0 b ∨ C.w0.heap.size ≤ b) ∧ aF C.X ι H b := by
  rintro b ⟨j,i,β,h1,h2⟩
  obtain ⟨cs,cs',q1,q2,q3⟩ := hH0 j i h1
  rcases g.obj i cs' q2 with ⟨q,_⟩ | ⟨b',β',arr,e,q,q4,q5,q6,q7,q8⟩
  ·rw [q] at h2;cases h2
  ·rw [q] at h2;cases h2;exact ⟨q7,q8,.inr ⟨i,cs',_,q2,q⟩⟩
 have hnone : ∀ i j,fi i = some j → ι i = none := fun i j h1 => g.fresh i (hF j i ((hfi i j).1 h1))
 have hιc : ∀ j i,mpF j = some i → ιc j = ι i := fun j i h => by simp only [ιc,h]
 have hbadc : ∀ b, aF Xc ιc H0 b → aF C.X ι H b := by
  rintro b (⟨h1,_⟩ | ⟨j,cs,β,h1,h2⟩)
  ·exact h1
  ·obtain ⟨i, hi⟩ := hH1 j cs h1
   rw [hιc j i hi] at h2
   exact (hW0 b ⟨j,_,β,hi,h2⟩).2.2
 have hbadc2 : ∀ b, aF C.X ι H b → aF Xc ιc H0 b := by
  intro b hb
  by_cases hw0 : W0 b
  ·obtain ⟨j, i, β, h1, h2⟩ := hw0
   obtain ⟨cs,cs',q1,q2,q3⟩ := hH0 j i h1
   exact .inr ⟨j,cs,β,q1,by rw [hιc j i h1]; exact h2⟩
  ·exact .inl ⟨hb,hw0⟩
 have gc : HG C' ιc F0 H0 w := by
  refine ⟨fun j cs hj => ?_,fun j j' cs cs' b β β' h1 h2 h3 h4 => ?_,Fr.refl _ _,fun _ _ h => h,fun j hj => ?_⟩
  ·obtain ⟨i, hi⟩ := hH1 j cs hj
   obtain ⟨cs1,cs',q1,q2,q3⟩ := hH0 j _ hi
   rw [hj] at q1;cases q1
   rcases g.obj _ cs' q2 with ⟨q4,q5⟩ | ⟨b',β',arr,e,q4,q5,q6,q7,q8,q9⟩
   ·refine .inl ⟨by rw [hιc j i hi]; exact q4, ?_⟩
    subst q5
    exact List.eq_nil_of_length_eq_zero (by rw [q3.len]; rfl)
   ·have hw0 : W0 b' := ⟨j, _, β', hi, q4⟩
    exact .inr ⟨b',β',arr,e,by rw [hιc j i hi]; exact q4,q5,by rw [q3.len]; exact q6,RnL.bwC hιc hbadc q3 q7,fun hx => hx.2 hw0,.inl hw0⟩
  ·obtain ⟨i, hi⟩ := hH1 j cs h1
   obtain ⟨i',hi'⟩ := hH1 j' cs' h2
   obtain ⟨_,c1,_,q2,_⟩ := hH0 j _ hi
   obtain ⟨_,c2,_,q2',_⟩ := hH0 j' _ hi'
   rw [hιc j i hi] at h3
   rw [hιc j' i' hi'] at h4
   have := g.sep _ _ _ _ _ _ _ q2 q2' h3 h4
   exact hmi j j' i hi (by rw [hi',this])
  ·show ιc j = none
   simp only [ιc,hF0 j hj]
 have hvc : RdV w (aF C'.X ιc H0) ιc args vals := RnL.bwV hιc hbadc ha hv
 refine (h C' ιc w vals rfl rfl gc hvc).mono ?_
 rintro e w' ⟨v,r0,H',ιr,rfl,⟨rfl,hkeep⟩,hrd,gr⟩
 let ι' : Pl := fun i => match fi i with|some j => ιr j|none => ι i
 have hmpf : ∀ (j i : Nat), mpF j = some i → fi i = none := by
  intro j i hj
  cases hq : fi i with
  | none => rfl
  | some j2 =>
   obtain ⟨cs,cs',q1,q2,q3⟩ := hH0 j i hj
   rcases g.obj i cs' q2 with ⟨q,_⟩ | ⟨_,_,_,_,q,_⟩ <;> (rw [hnone i _ hq] at q;cases q)
 have hιr : ∀ (j i : Nat), mpF j = some i → ιr j = ι i := by
  intro j i hj
  obtain ⟨cs,cs',q1,q2,q3⟩ := hH0 j i hj
  have : ∃ q, ι i = some q := by
   rcases g.obj i cs' q2 with ⟨q,_⟩ | ⟨_,_,_,_,q,_⟩
   ·exact ⟨_,q⟩
   ·exact ⟨_,q⟩
  obtain ⟨q,hq⟩ := this
  rw [hq]
  exact gr.ex j q (by show ιc j = some q;rw [hιc j i hj]; exact hq)
 have hρ1 : ∀ j i, pC mpF fr j = some i → (mpF j = some i) ∨ (mpF j = none ∧ fr j = some i) := by
  intro j i hj
  unfold pC at hj
  split at hj
  ·cases hj;exact .inl (by assumption)
  ·exact .inr ⟨by assumption,hj⟩
 have hto : ∀ j i, pC mpF fr j = some i → ιr j = ι' i := by
  intro j i hj
  rcases hρ1 j i hj with h2 | ⟨h1,h2⟩
  ·rw [hιr j i h2]; simp only [ι',hmpf j i h2]
  ·simp only [ι',(hfi i j).2 h2]
 have hcase := hw
 have hold : ∀ i cs', H i = some cs' → ι' i = ι i := by
  intro i cs' hi
  simp only [ι']
  cases hq : fi i with
  | none => rfl
  | some j2 => rcases g.obj i cs' hi with ⟨q,_⟩ | ⟨_,_,_,_,q,_⟩ <;> (rw [hnone i _ hq] at q;cases q)
 have hnW : ∀ (i : Nat) cs' b β, H i = some cs' → (∀ j, mpF j ≠ some i) → ι i = some (some (b, β)) → ¬ W0 b := by
  rintro i cs' b β hi hm hb ⟨j,i2,β2,q1,q2⟩
  obtain ⟨cs,c2,_,q3,_⟩ := hH0 j i2 q1
  have := g.sep _ _ _ _ _ _ _ hi q3 hb q2
  subst this
  exact hm j q1
 have hobjlt : ∀ i cs' b β,H i = some cs' → ι i = some (some (b,β)) → b < w.heap.size := fun i cs' b β hi hb => g.bad_lt b (.inr ⟨i,cs',β,hi,hb⟩)
 have hcal : ∀ j cs b β, H' j = some cs → ιr j = some (some (b, β)) → W0 b ∨ w.heap.size ≤ b := by
  intro j cs b β hj hb
  rcases gr.obj j cs hj with ⟨q,_⟩ | ⟨b',β',arr,e,q,q4,q5,q6,q7,q8⟩
  ·rw [q] at hb;cases hb
  ·rw [q] at hb;cases hb;exact q8
 have hbad : ∀ b, aF C.X ι' H2 b → aF C.X ι H b ∨ w.heap.size ≤ b := by
  rintro b (h1 | ⟨i,cs',β,h1,h2⟩)
  ·exact .inl (.inl h1)
  ·rcases hcase i cs' h1 with ⟨j, cs, q1, q2, q3⟩ | ⟨q1, q2⟩
   ·rw [← hto j i q1] at h2
    rcases hcal j cs b β (hkeep j cs q2) h2 with q|q
    ·exact .inl (hW0 b q).2.2
    ·exact .inr q
   ·rw [hold i cs' q1] at h2;exact .inl (.inr ⟨i,cs',β,q1,h2⟩)
 have hfr := gr.fr
 have hcar : Carry w (aF C.X ι H) ι w' (aF C.X ι' H2) ι' := by
  refine ⟨fun b o y h1 h2 => ?_,fun i q hq => ?_,hfr.bs⟩
  ·have hlt := gV h2
   refine ⟨fun hb => ?_,?_⟩
   ·rcases hbad b hb with h | h
    ·exact h1 h
    ·omega
   ·rw [bY (hfr.block b hlt (fun hw0 => h1 (hW0 b hw0).2.2))]; exact h2
  ·simp only [ι']
   cases hq2 : fi i with
   | none => exact hq
   | some j2 => rw [hnone i _ hq2] at hq;cases hq
 have hrn2 : RnH w' (pC mpF fr) (aF C'.X ιr H') ιr (aF C.X ι' H2) ι' := by
  refine ⟨⟨fun b o y h1 h2 => ⟨fun hb => h1 ?_,h2⟩,fun _ _ h => h,fun _ => Nat.le_refl _⟩,fun j i hj => hto j i hj⟩
  rcases hb with hb | ⟨i,cs',β,q1,q2⟩
  ·exact .inl ⟨.inl hb,fun hw0 => (hW0 b hw0).1 hb⟩
  ·rcases hcase i cs' q1 with ⟨j, cs, r1, r2, r3⟩ | ⟨r1, r2⟩
   ·rw [← hto j i r1] at q2
    exact .inr ⟨j,cs,β,hkeep j cs r2,q2⟩
   ·rw [hold i cs' r1] at q2
    exact .inl ⟨.inr ⟨i,cs',β,r1,q2⟩,hnW i cs' b β r1 r2 q2⟩
 refine ⟨v,ι',rfl,⟨fun i cs' hi => ?_,fun i i2 cs1 cs2 b β β' h1 h2 h3 h4 => ?_,⟨hfr.os.trans g.fr.os,hfr.tape.trans g.fr.tape,hfr.output.trans g.fr.output,Nat.le_trans g.fr.size hfr.size,fun b hb hnw => ?_,fun b => Nat.le_trans (g.fr.bs b) (hfr.bs b)⟩,fun i q hq => hcar.pl i q (g.ex i q hq),fun i hi => ?_⟩,hcar,RnV.fwd hrn2 hr hrd⟩
 ·rcases hcase i cs' hi with ⟨j, cs, q1, q2, q3⟩ | ⟨q1, q2⟩
  ·rcases gr.obj j cs (hkeep j cs q2) with ⟨r1, r2⟩ | ⟨b, β, arr, e, r1, r2, r3, r4, r5, r6⟩
   ·refine .inl ⟨by rw [← hto j i q1]; exact r1, ?_⟩
    subst r2
    exact List.eq_nil_of_length_eq_zero (by rw [← q3.len]; rfl)
   ·refine .inr ⟨b, β, arr, e, by rw [← hto j i q1]; exact r1, r2, by rw [← q3.len]; exact r3, RnL.fwdC hrn2 q3 r4, ?_, ?_⟩
    ·rcases r6 with r6 | r6
     ·exact (hW0 b r6).1
     ·intro hX
      have := C.xlt b hX
      have := g.fr.size
      have : w.heap.size ≤ b := r6
      omega
    ·rcases r6 with r6 | r6
     ·exact (hW0 b r6).2.1
     ·refine .inr ?_
      have := g.fr.size
      have : w.heap.size ≤ b := r6
      omega
  ·rcases g.obj i cs' q1 with ⟨r1, r2⟩ | ⟨b, β, arr, e, r1, r2, r3, r4, r5, r6⟩
   ·exact .inl ⟨by rw [hold i cs' q1]; exact r1,r2⟩
   ·have hlt := c6 r2
    have hbl := hfr.block b hlt (hnW i cs' b β q1 q2 r1)
    exact .inr ⟨b,β,arr,e,by rw [hold i cs' q1]; exact r1,by rw [hbl]; exact r2,r3,RdC.carryB hcar _ _ _ (fun o y hy => by rw [bY hbl]; exact hy) r4,r5,r6⟩
 ·rcases hcase i cs1 h1 with ⟨j, c1, q1, q2, q3⟩ | ⟨q1, q2⟩ <;> rcases hcase i2 cs2 h2 with ⟨j2, c2, q1', q2', q3'⟩ | ⟨q1', q2'⟩
  ·rw [← hto j i q1] at h3
   rw [← hto j2 i2 q1'] at h4
   have := gr.sep _ _ _ _ _ _ _ (hkeep j c1 q2) (hkeep j2 c2 q2') h3 h4
   subst this
   rw [q1] at q1'; cases q1'; rfl
  ·rw [← hto j i q1] at h3
   rw [hold i2 cs2 q1'] at h4
   have hlt := hobjlt i2 cs2 b _ q1' h4
   rcases hcal j c1 b _ (hkeep j c1 q2) h3 with q|q
   ·exact (hnW i2 cs2 b _ q1' q2' h4 q).elim
   ·omega
  ·rw [hold i cs1 q1] at h3
   rw [← hto j2 i2 q1'] at h4
   have hlt := hobjlt i cs1 b _ q1 h3
   rcases hcal j2 c2 b _ (hkeep j2 c2 q2') h4 with q|q
   ·exact (hnW i cs1 b _ q1 q2 h3 q).elim
   ·omega
  ·rw [hold i cs1 q1] at h3
   rw [hold i2 cs2 q1'] at h4
   exact g.sep _ _ _ _ _ _ _ q1 q1' h3 h4
 ·have hb2 : b < w.heap.size := by have := g.fr.size; omega
  rw [hfr.block b hb2 (fun hw0 => ?_)]
  ·exact g.fr.block b hb hnw
  ·rcases (hW0 b hw0).2.1 with q | q
   ·exact hnw q
   ·omega
 ·simp only [ι', hi.2]
  exact g.fresh i hi.1
attribute [local irreducible] aU
def HB (P : Program) (k : FuncId) (args : List AV) (R0 : List (List Bool)) (r : AV) (hh : List (Nat × Option (List AV))) : Prop :=
 sB P k args (aN (dY R0)) (Fn 0 ⟨0,aU + R0.length⟩) (fun r' H' => r' = r ∧ ∀ id cs,aN (hh ++ dY R0) id = some cs → H' id = some cs)
theorem jZ {hs:List (Nat × Option (List AV))}{r r':AV}{R0:List (List Bool)}{hh:List (Nat × Option (List AV))}(hr:r' = r) (hh':jT hs hh) (hF:FamR R0 R0 hs hs):r' = r ∧ ∀ id cs,aN (hh ++ dY R0) id = some cs → aN hs id = some cs:=by
 refine ⟨hr,fun id cs h => ?_⟩
 rcases mQ h with h|h
 ·exact kQ hh' id cs h
 ·obtain ⟨k, hk, rfl, rfl⟩ := gN h
  exact hF.get hk
theorem F3 {hs:List (Nat × Option (List AV))}{r r':AV}{R0:List (List Bool)}(hr:r' = r) (hF:FamR R0 R0 hs hs):r' = r ∧ ∀ id cs,aN (dY R0) id = some cs → aN hs id = some cs :=
 jZ (hh := []) hr trivial hF
def A7 (b m : Nat) (j : Nat) : Option Nat := if aU ≤ j ∧ j < aU + m then some (b + j) else none
def Ih (n n1 : Nat) (j : Nat) : Option Nat := if j < n1 then some (n + j) else none
def IQ (n n1 : Nat) (i : Nat) : Option Nat := if n ≤ i ∧ i < n + n1 then some (i - n) else none
def II (b m n n1 : Nat) : Nat → Option Nat := pC (A7 b m) (Ih n n1)
theorem qB {mpF fr:Nat → Option Nat}{j i:Nat}(h:mpF j = some i):pC mpF fr j = some i := by unfold pC;rw [h]
theorem iA {b m k:Nat}(h:k < m):A7 b m (k + aU) = some (b + k + aU):=by
 unfold A7;rw [if_pos (by omega),Nat.add_assoc]
theorem EM {b m n n1 k:Nat}(h:k < m):II b m n n1 (k + aU) = some (b + k + aU) := qB (iA h)
theorem rn_rows {ρ:Nat → Option Nat}{b b' m w:Nat}(h:∀ k,k < m → ρ (b + k + aU) = some (b' + k + aU)):RnL ρ (flat (oS b w) (List.range m)) (flat (oS b' w) (List.range m)) :=
 RnL.flt fun k hk => by rw [List.mem_range] at hk;exact .cons (.own (h k hk)) .nil
theorem eJ {m:List (Nat × Nat)}{lo:Lo}{pn:Option Nat}{b k w:Nat}(h:aU + (b + k) ≤ lo.fb):RnL (gJ m lo pn) (flat (oS b w) (List.range k)) (flat (oS b w) (List.range k)) :=
 rn_rows fun j hj => kD (by omega) (by omega)
def HA (ρ : Nat → Option Nat) (hh : List (Nat × Option (List AV))) : List (Nat × Option (List AV)) → Prop
 | [] => True
 | (i,none) :: l => HA ρ hh l
 | (i,some cs') :: l => (∃ j cs,ρ j = some i ∧ aN hh j = some cs ∧ RnL ρ cs cs') ∧ HA ρ hh l
theorem w8 {ρ:Nat → Option Nat}{hh:List (Nat × Option (List AV))}:∀ {ws:List (Nat × Option (List AV))},HA ρ hh ws → ∀ i cs',(i,some cs') ∈ ws → ∃ j cs,ρ j = some i ∧ aN hh j = some cs ∧ RnL ρ cs cs'
 | [],_,i,cs',h => by simp at h
 | (u, none) :: l, hw, i, cs', h => by
  simp only [HA] at hw
  rcases List.mem_cons.1 h with h|h
  ·cases h
  ·exact w8 hw i cs' h
 | (u, some c) :: l, hw, i, cs', h => by
  simp only [HA] at hw
  rcases List.mem_cons.1 h with h|h
  ·cases h;exact hw.1
  ·exact w8 hw.2 i cs' h
section
variable {P : Program} {N : Nat} {Q : Exit → AS → Prop} {all : Array Oper} {rest : List Oper} {ts : List (Nat × AV)} {hs : List (Nat × Option (List AV))} {n : Nat} {z0 : Lo} {md : Md}
variable {d : Nat} {ty : TypeId} {pos : String} {af : Array Edge}
theorem u4 {k:FuncId}{args:Array Operand}{tys:Array TypeId}{avs avs0:List AV}{R R0:List (List Bool)}{r rr':AV}{hh:List (Nat × Option (List AV))}(b n1:Nat) (D:List Nat) (ws:List (Nat × Option (List AV))) [hc:CaT P k]
  (ha : evL (lk ts) args.toList = some avs) (h : HB P k avs0 R0 r hh) (hF : FamR R R hs hs) (hb : b + R0.length ≤ R.length) (hR : ∀ k,k < R0.length → R0[k]! = R[b + k]!) (hD : ∀ k,k < R0.length → b + k + aU ∈ D)
  (har : RnL (A7 b R0.length) avs0 avs) (hk : dU aU hh = true) (hr : RnV (II b R0.length n n1) r rr') (hw : HA (II b R0.length n n1) hh ws) (hM : Nat.ble (n + n1) aU = true) (hN : Nat.blt d N = true)
  {md' : Md} [hmd : MdA md (dV args.toList ++ D.map .inr) (ws.map (fun p => .inr p.1) ++ [.inl d]) md']
  (kk : RW P N all Q md' rest ⟨(d,rr') :: ts,eS hs ws,n + n1,z0⟩) : RW P N all Q md (⟨some d,.call ⟨.value (.func k),args,tys⟩,ty,pos,af,none⟩ :: rest) ⟨ts,hs,n,z0⟩ := by
 have hM' := Nat.le_of_ble_eq_true hM
 refine fX (rs := dV args.toList ++ D.map .inr) (ws := ws) (n' := n + n1) (out := rr') rfl (Nat.le_add_right _ _) (.inr hM') (fun C ι F T H a w K Q' hCN ag hFf g gh hK => ?_) (fun x hx => by cases hx;exact b0 hN) (by simp only [wD]; rw [← hmd.pf] at kk;exact kk)
 simp only [Oper.wp,dI hc.pf,Oper.upon]
 have hH : ∀ q, q < R0.length → H (b + q + aU) = some (flat cB R[b + q]!) := fun q hq => by
  rw [ag.r.h _ (List.mem_map_of_mem (hD q hq))]; exact hF.get (by omega)
 have hmp : ∀ j i, A7 b R0.length j = some i → ∃ q, q < R0.length ∧ j = q + aU ∧ i = b + q + aU := by
  intro j i hj
  unfold A7 at hj
  split at hj
  ·cases hj;exact ⟨j - aU,by omega,by omega,by omega⟩
  ·cases hj
 have hrh : ∀ j i, Ih n n1 j = some i → j < n1 ∧ i = n + j := by
  intro j i hj
  unfold Ih at hj
  split at hj
  ·cases hj;exact ⟨by assumption,rfl⟩
  ·cases hj
 refine (vO (fr := Ih n n1) (fi := IQ n n1) (hh := aN (hh ++ dY R0)) (H2 := gB H ws) h (fun j j' i h1 h2 => ?_) (fun i j => ?_) (fun j i h1 => ?_) (fun j hj => ?_) gh (fun j i hj => ?_) (fun j cs hj => ?_) har (fun j i hj => ?_) hr (fun i cs' hi => ?_) (eR g (ag.l.evL.trans ha))).mono ?_
 ·obtain ⟨q, _, _, _⟩ := hmp j i h1
  obtain ⟨q',_,_,_⟩ := hmp j' i h2
  omega
 ·unfold IQ Ih
  constructor
  ·intro h1
   split at h1
   ·cases h1;rw [if_pos (by omega)]; congr 1;omega
   ·cases h1
  ·intro h1
   split at h1
   ·cases h1;rw [if_pos (by omega)]; congr 1;omega
   ·cases h1
 ·have := hrh j i h1
  unfold A7;rw [if_neg (by omega)]
 ·have h1 : j < aU ∨ aU + R0.length ≤ j := hj.2
  unfold A7;rw [if_neg (by omega)]
 ·obtain ⟨q, q1, rfl, rfl⟩ := hmp j i hj
  refine ⟨flat cB R0[q]!,flat cB R[b + q]!,?_,hH q q1,?_⟩
  ·rw [jN,if_pos q1]
  ·rw [hR q q1]; exact .pur (inferInstance : Pur (flat cB R[b + q]!)).pf
 ·obtain ⟨q, q1, rfl, rfl⟩ := gN hj
  exact ⟨_,iA q1⟩
 ·obtain ⟨q1, rfl⟩ := hrh j i hj
  exact hFf _ (Nat.le_add_right _ _) (by omega)
 ·rcases oA hi with h1 | ⟨h1, h2⟩
  ·obtain ⟨j, cs, q1, q2, q3⟩ := w8 hw i cs' h1
   exact .inl ⟨j,cs,q1,Ch q2,q3⟩
  ·by_cases hq : ∃ q, q < R0.length ∧ i = b + q + aU
   ·obtain ⟨q, q1, rfl⟩ := hq
    rw [hH q q1] at h1
    cases h1
    refine .inl ⟨q + aU,flat cB R0[q]!,EM q1,?_,?_⟩
    ·rw [BP (lY (by omega) hk),jN,if_pos q1]
    ·rw [hR q q1]; exact .pur (inferInstance : Pur (flat cB R[b + q]!)).pf
   ·refine .inr ⟨h1, fun j hj => hq ?_⟩
    obtain ⟨q,q1,_,q2⟩ := hmp j i hj
    exact ⟨q,q1,q2⟩
 ·rintro e w' ⟨v, ι', rfl, g', c', hrd⟩
  refine hK ι' w' v (g.carry c') (g'.less (fun _ _ h => h) (fun j hj => ⟨hj.1,?_⟩)).1 hrd
  unfold IQ;rw [if_neg hj.2]
end
theorem CB {P:Program}{k:FuncId}{fn:Func}{c:Code}{args:List AV}{R0:List (List Bool)}{r:AV}{hh:List (Nat × Option (List AV))}(hf:P.funcs[k]? = some fn) (hb:fn.body = some c) (hN:args.length ≤ fn.ntmps)
  (h : AW P fn.ntmps c (kY P fn.results (fun r' H' => r' = r ∧ ∀ id cs,aN (hh ++ dY R0) id = some cs → H' id = some cs)) ⟨fF 0 args,dY R0,0,⟨0,aU + R0.length⟩⟩) : HB P k args R0 r hh := kM hf hb hN h
theorem Le.virt {ts:List (Nat × AV)}{hs:List (Nat × Option (List AV))}{n:Nat}{z0:Lo}(hn:n < aU):Le ⟨ts,hs,n,z0⟩ ⟨ts,(n,some []) :: hs,n + 1,z0⟩:=by
 rintro C a w ⟨h0,ι,g,gh⟩
 obtain ⟨g1,c1⟩ := gh.virt (id := n) ⟨Nat.le_refl _,.inl hn⟩
 have e : aN ((n,some []) :: hs) = cP (aN hs) n (some []) := uE _ _ _
 refine ⟨h0,cP ι n (some none),?_,?_⟩
 ·show TG C _ (lk ts) (aN ((n, some []) :: hs)) a w
  rw [e]; exact g.carry c1
 ·show HG C _ _ (aN ((n, some []) :: hs)) w
  rw [e]
  refine (g1.less (fun _ _ h => h) (fun j hj => ?_)).1
  have h1 : n + 1 ≤ j := hj.1
  exact ⟨⟨by show n ≤ j;omega,hj.2⟩,by omega⟩
theorem Le.cellsN {ts:List (Nat × AV)}{hs:List (Nat × Option (List AV))}{n:Nat}{z0:Lo}{i q:Nat}{cs cs' cq:List AV}(hi:aN hs i = some cs) (hq:aN hs q = some cq) (hl:cs'.length = cs.length)
  (h : ∀ (w : World) (bad : Nat → Prop) (ι : Pl) (b β : Nat),(∃ p,ι q = some p) → RdC w bad ι cs b β → RdC w bad ι cs' b β) :
  Le ⟨ts,hs,n,z0⟩ ⟨ts,(i,some cs') :: hs,n,z0⟩ := by
 rintro C a w ⟨h0,ι,g,gh⟩
 have hqq : ∃ p, ι q = some p := by
  rcases gh.obj q cq hq with ⟨p1,_⟩ | ⟨_,_,_,_,p1,_⟩ <;> exact ⟨_,p1⟩
 have hk : ∀ id c, aN ((i, some cs') :: hs) id = some c → (id = i ∧ c = cs') ∨ (id ≠ i ∧ aN hs id = some c) := by
  intro id c hc
  rw [bN] at hc
  split at hc
  ·rename_i e;cases hc;exact .inl ⟨e,rfl⟩
  ·rename_i e;exact .inr ⟨fun h => e h,hc⟩
 have hk2 : ∀ id c, aN hs id = some c → ∃ c', aN ((i, some cs') :: hs) id = some c' := by
  intro id c hc
  rw [bN]
  split
  ·exact ⟨_,rfl⟩
  ·exact ⟨_,hc⟩
 have hb : aF C.X ι (aN ((i, some cs') :: hs)) = aF C.X ι (aN hs) := by
  funext b
  refine propext ⟨?_,?_⟩
  ·rintro (h | ⟨id, c, β, h1, h2⟩)
   ·exact .inl h
   ·rcases hk id c h1 with ⟨rfl, _⟩ | ⟨_, h3⟩
    ·exact .inr ⟨_,_,_,hi,h2⟩
    ·exact .inr ⟨_,_,_,h3,h2⟩
  ·rintro (h | ⟨id, c, β, h1, h2⟩)
   ·exact .inl h
   ·obtain ⟨c', h3⟩ := hk2 id c h1
    exact .inr ⟨_,_,_,h3,h2⟩
 refine ⟨h0,ι,⟨g.df,g.sz,fun t av ht => ?_⟩,?_,?_,gh.fr,gh.ex,gh.fresh⟩
 ·show ∃ y, a.tmps[t]? = some y ∧ Rd w (aF C.X ι (aN ((i, some cs') :: hs))) ι av y
  rw [hb]; exact g.tm t av ht
 ·intro id c hc
  show _ ∨ ∃ b β arr e,ι id = some (some (b,β)) ∧ w.heap[b]? = some (.cells arr e (0,0)) ∧ β + c.length ≤ arr.size ∧ RdC w (aF C.X ι (aN ((i,some cs') :: hs))) ι c b β ∧ ¬ C.X b ∧ (C.W0 b ∨ C.w0.heap.size ≤ b)
  rw [hb]
  rcases hk id c hc with ⟨rfl,rfl⟩ | ⟨_,h3⟩
  ·rcases gh.obj _ _ hi with ⟨q1, q2⟩ | ⟨b, β, arr, e, q1, q2, q3, q4, q5⟩
   ·subst q2
    exact .inl ⟨q1,List.eq_nil_of_length_eq_zero hl⟩
   ·exact .inr ⟨b,β,arr,e,q1,q2,by rw [hl]; exact q3,h _ _ _ _ _ hqq q4,q5⟩
  ·exact gh.obj _ _ h3
 ·intro id id' c c' b β β' h1 h2 h3 h4
  obtain ⟨d1, e1⟩ : ∃ d, aN hs id = some d := by
   rcases hk id c h1 with ⟨rfl,_⟩ | ⟨_,h⟩
   ·exact ⟨_,hi⟩
   ·exact ⟨_,h⟩
  obtain ⟨d2, e2⟩ : ∃ d, aN hs id' = some d := by
   rcases hk id' c' h2 with ⟨rfl,_⟩ | ⟨_,h⟩
   ·exact ⟨_,hi⟩
   ·exact ⟨_,h⟩
  exact gh.sep id id' d1 d2 b β β' e1 e2 h3 h4
theorem mL {w:World}{bad:Nat → Prop}{ι:Pl}{c c':AV}(hc:∀ y,Rd w bad ι c y → Rd w bad ι c' y):∀ (a:List AV) (r:List AV) (b o:Nat),RdC w bad ι (a ++ c :: r) b o → RdC w bad ι (a ++ c' :: r) b o
 | [], r, b, o, h => by
  simp only [List.nil_append,RdC] at h ⊢
  obtain ⟨⟨x,h1,h2,h3⟩,h4⟩ := h
  exact ⟨⟨x,h1,h2,hc _ h3⟩,h4⟩
 | x :: a, r, b, o, h => by
  simp only [List.cons_append,RdC] at h ⊢
  exact ⟨h.1,mL hc a r b (o + 1) h.2⟩
theorem Le.nilCell {ts:List (Nat × AV)}{hs:List (Nat × Option (List AV))}{n:Nat}{z0:Lo}{i:Nat}(e:Nat) (c1:List AV){c2:List AV}(hi:aN hs i = some (c1 ++ .v (.slice none 0 0) :: c2)) (hin:i ≠ n) (hn:n < aU) :
  Le ⟨ts,hs,n,z0⟩ ⟨ts,(i,some (c1 ++ .own n 0 0 e :: c2)) :: (n,some []) :: hs,n + 1,z0⟩ :=
 (Le.virt hn).trans (Le.cellsN (q := n) (cs := c1 ++ .v (.slice none 0 0) :: c2) (by rw [bN, if_neg hin]; exact hi) (by rw [bN, if_pos rfl]) (by simp) fun w bad ι b β hp hr =>
  mL (fun y hy => by simp only [Rd] at hy ⊢; exact .inl ⟨hp,trivial,none,hy⟩) c1 c2 b β hr)
theorem Le.frzC {ts:List (Nat × AV)}{hs:List (Nat × Option (List AV))}{n:Nat}{z0:Lo}{j i m e:Nat}(c1:List AV){c2 d:List AV}(hj:aN hs j = some (c1 ++ .own i 0 m e :: c2)) (hi:aN hs i = some d) (hij:j ≠ i) :
  Le ⟨ts,hs,n,z0⟩ ⟨ts,(j,some (c1 ++ .imm m d :: c2)) :: (i,none) :: hs,n,z0⟩ := by
 rintro C a w ⟨h0,ι,g,gh⟩
 have hk : ∀ id c, aN ((j, some (c1 ++ .imm m d :: c2)) :: (i, none) :: hs) id = some c → (id = j ∧ c = c1 ++ .imm m d :: c2) ∨ (id ≠ j ∧ id ≠ i ∧ aN hs id = some c) := by
  intro id c hc
  rw [bN] at hc
  split at hc
  ·rename_i e;cases hc;exact .inl ⟨e,rfl⟩
  ·rename_i e
   rw [bN] at hc
   split at hc
   ·cases hc
   ·rename_i e2;exact .inr ⟨e,e2,hc⟩
 have hk2 : ∀ id c, aN ((j, some (c1 ++ .imm m d :: c2)) :: (i, none) :: hs) id = some c → id ≠ i ∧ ∃ c', aN hs id = some c' := by
  intro id c hc
  rcases hk id c hc with ⟨rfl,_⟩ | ⟨_,h2,h3⟩
  ·exact ⟨hij,_,hj⟩
  ·exact ⟨h2,_,h3⟩
 have hbad : ∀ b, aF C.X ι (aN ((j, some (c1 ++ .imm m d :: c2)) :: (i, none) :: hs)) b → aF C.X ι (aN hs) b := by
  rintro b (h | ⟨id,c,β,h1,h2⟩)
  ·exact .inl h
  ·obtain ⟨_, c', h3⟩ := hk2 id c h1
   exact .inr ⟨id,c',β,h3,h2⟩
 have car : Carry w (aF C.X ι (aN hs)) ι w (aF C.X ι (aN ((j,some (c1 ++ .imm m d :: c2)) :: (i,none) :: hs))) ι := ⟨fun b o x h1 h2 => ⟨fun q => h1 (hbad b q),h2⟩,fun _ _ h => h,fun _ => Nat.le_refl _⟩
 have hcell : ∀ y, Rd w (aF C.X ι (aN ((j, some (c1 ++ .imm m d :: c2)) :: (i, none) :: hs))) ι (.own i 0 m e) y → Rd w (aF C.X ι (aN ((j, some (c1 ++ .imm m d :: c2)) :: (i, none) :: hs))) ι (.imm m d) y := by
  intro y hr
  simp only [Rd] at hr ⊢
  rcases hr with ⟨_,h2,a',h3⟩ | ⟨b,β,c,h1,h2,h3,h4⟩
  ·subst h2;exact ⟨a',0,h3,.inl rfl⟩
  ·refine ⟨_, c, h2, ?_⟩
   rcases Nat.eq_zero_or_pos m with h5|h5
   ·exact .inl h5
   ·refine .inr ⟨b, β + 0, h3, rfl, ?_⟩
    rcases gh.obj i d hi with ⟨q1,q2⟩ | ⟨b',β',arr,e',q1,q2,q3,q4,q5,q6⟩
    ·rw [h1] at q1;cases q1
    ·rw [h1] at q1; cases q1
     refine .inr ⟨?_,RdC.carryB car _ _ _ (fun o x hx => hx) q4⟩
     rintro (h | ⟨id',cs',β',r1,r2⟩)
     ·exact q5 h
     ·obtain ⟨r3, c', r4⟩ := hk2 id' cs' r1
      exact r3 (gh.sep _ _ _ _ _ _ _ r4 hi r2 h1)
 refine ⟨h0,ι,g.carry car,⟨fun id c hc => ?_,fun id id' c c' b β β' h1 h2 h3 h4 => ?_,gh.fr,gh.ex,gh.fresh⟩⟩
 ·rcases hk id c hc with ⟨rfl, rfl⟩ | ⟨_, _, h3⟩
  ·rcases gh.obj _ _ hj with ⟨q1, q2⟩ | ⟨b, β, arr, e, q1, q2, q3, q4, q5⟩
   ·simp at q2
   ·exact .inr ⟨b,β,arr,e,q1,q2,by simpa using q3,mL hcell c1 c2 b β (RdC.carryB car _ _ _ (fun o x hx => hx) q4),q5⟩
  ·rcases gh.obj _ _ h3 with ⟨q1, q2⟩ | ⟨b, β, arr, e, q1, q2, q3, q4, q5⟩
   ·exact .inl ⟨q1,q2⟩
   ·exact .inr ⟨b,β,arr,e,q1,q2,q3,RdC.carryB car _ _ _ (fun o x hx => hx) q4,q5⟩
 ·obtain ⟨_, d1, e1⟩ := hk2 id c h1
  obtain ⟨_,d2,e2⟩ := hk2 id' c' h2
  exact gh.sep id id' d1 d2 b β β' e1 e2 h3 h4
theorem Gc {R:List (List Bool)}{hs hs':List (Nat × Option (List AV))}{k m:Nat}(hF:FamR R R hs hs') (hk:k < R.length) (hm:m = R[k]!.length):sCells (aN hs) 1 (lS (.own (k + aU) 0 m 1)) = some (m,flat cB R[k]!):=by
 subst hm
 have hl : (flat cB R[k]!).length = R[k]!.length * 1 := aI cB _
 show (aN hs (k + aU)).bind (fun cs => if R[k]!.length * 1 ≤ (cs.drop 0).length then some (R[k]!.length,(cs.drop 0).take (R[k]!.length * 1)) else none) = _
 rw [hF.get hk,Option.bind_some,List.drop_zero,if_pos (by omega),List.take_of_length_le (by omega)]
theorem Le.fdrop {ts:List (Nat × AV)}{hs:List (Nat × Option (List AV))}{n:Nat}{z0:Lo}{k:Nat}{R:List (List Bool)}(hF:FamR R R hs hs) (hk:k < R.length):Le ⟨ts,(k + aU,some (flat cB R[k]!)) :: hs,n,z0⟩ ⟨ts,hs,n,z0⟩:=by
 refine Le.of (fun _ _ h => h) (fun i cs h => ?_) (Nat.le_refl _) rfl
 have h' : aN hs i = some cs := h
 show aN ((k + aU,some (flat cB R[k]!)) :: hs) i = some cs
 rw [bN]
 split
 ·rename_i e;subst e;rw [hF.get hk] at h'; exact h'
 ·exact h'
theorem Is {i k:Nat}(hi:Nat.blt i aU = true):distinct [i,k + aU] = true:=by
 have h1 := b0 hi
 have : Nat.beq i (k + aU) = false := by
  cases h : Nat.beq i (k + aU) with
  | false => rfl
  | true => have := Nat.eq_of_beq_eq_true h;omega
 simp only [distinct,List.all_cons,List.all_nil,this]; rfl
structure Hy (T : Prop) : Prop where pf : T
theorem IA:(∀ a b:Bool,((a && b) = true) = (a = true ∧ b = true)) ∧ (∀ a b:Bool,((a && b) = false) ↔ (a = false ∨ b = false)) ∧ (∀ a b:Bool,((a || b) = true) = (a = true ∨ b = true)) ∧ (∀ a b:Bool,((a || b) = false) ↔ (a = false ∧ b = false)) ∧
  (∀ (p : Prop) [Decidable p],(decide p = true) = p) ∧ (∀ (p : Prop) [Decidable p],(decide p = false) ↔ ¬ p) ∧ (∀ a : Bool,((!a) = true) ↔ a = false) ∧ (∀ a : Bool,((!a) = false) ↔ a = true) ∧ ((!true) = false) ∧ ((!false) = true) ∧ (∀ a b : Int,¬ a < b ↔ b ≤ a) ∧ (∀ a b : Int,¬ a ≤ b ↔ b < a) :=
 ⟨fun a b => Bool.and_eq_true a b,fun a b => Bool.and_eq_false_iff,fun a b => Bool.or_eq_true a b,fun a b => Bool.or_eq_false_iff,fun p _ => by simp,fun p _ => decide_eq_false_iff_not,fun a => by simp,fun a => by simp,rfl,rfl,fun _ _ => Int.not_lt,fun _ _ => Int.not_le⟩
theorem fP:(∀ {α:Type}(a b:List α),(a ++ b).length = a.length + b.length) ∧ (∀ {α:Type}(a:α) (b:List α),(a :: b).length = b.length + 1) ∧ (∀ {α:Type},([]:List α).length = 0) ∧ (∀ {α:Type}(a:List α) (i:Nat) (x:α),(a.set i x).length = a.length) ∧ (∀ {α:Type}(i:Nat) (a:List α),(a.take i).length = min i a.length) ∧
  (∀ {α β : Type} (f : α → β) (a : List α),(a.map f).length = a.length) ∧ (∀ {α : Type} (n : Nat) (a : α),(List.replicate n a).length = n) ∧ (∀ (l : List Stmt) (b : Nat),(dZ b l).length = cH l) ∧ (∀ n : Nat,n * 1 = n) ∧ (∀ n : Nat,0 + n = n) ∧ (∀ n : Nat,n + 0 = n) :=
 ⟨fun _ _ => List.length_append,fun _ _ => rfl,rfl,fun _ _ _ => List.length_set,fun _ _ => List.length_take,fun _ _ => List.length_map _,fun _ _ => List.length_replicate,a9,Nat.mul_one,Nat.zero_add,Nat.add_zero⟩
theorem bX {α:Type}{p q r:α → Prop}(x:α) (h3:r x) (h1:p x) (h2:q x):∃ x,p x ∧ q x ∧ r x := ⟨x,h1,h2,h3⟩
theorem IH {G K:Prop}(k:K) (h:Hy K → G := by first|(intro k;(first|((with_reducible apply AJ);(case hx => rfl);(case hH => rfl);(case hf => infer_instance);(case hg => infer_instance);(case hα => infer_instance);(case hk => omega);(case hc => rfl);(case hN => rfl)) | ((with_reducible apply Bi);(case hx => rfl);(case hH => rfl);(case hf => infer_instance);(case hg => infer_instance);(case hα => infer_instance);(case hk => omega);(case hc => rfl);(case hN => rfl)) | ((with_reducible apply An);(case hx => rfl);(case hH => rfl);(case hf => infer_instance);(case hg => infer_instance);(case hα => infer_instance);(case hk => omega);(case h0 => rfl);(case hN => rfl)) | ((with_reducible apply CV);(case hx => rfl);(case hd => rfl);(case hc => rfl);(case hN => rfl)) | ((with_reducible apply DQ);(case hx => rfl);(case hd => rfl);(case hc => (first|exact (rfl:_ = [_]) | exact (rfl:_ = [_,_]) | exact (rfl:_ = [_,_,_]) | exact (rfl:_ = [_,_,_,_]) | exact (rfl:_ = [_,_,_,_,_]) | exact (rfl:_ = [_,_,_,_,_,_]) | exact (rfl:_ = [_,_,_,_,_,_,_]) | exact (rfl:_ = [_,_,_,_,_,_,_,_]) | rfl));(case hn => rfl);(case h0 => rfl);(case hN => rfl))  | ((with_reducible apply tE);(case hx => rfl);(case hH => rfl);(case hl => first|assumption | omega | (simp only [fP] <;> omega) | rfl);(case h0 => rfl);(case hN => rfl)) | ((with_reducible apply u9);(case hx => rfl);(case hH => rfl);(case hl => first|assumption | omega | (simp only [fP] <;> omega) | rfl);(case h0 => rfl);(case hN => rfl)) | ((with_reducible apply Al);(case hx => rfl);(case hH => rfl);(case ho => first|exact IG | exact off1);(case hq => first|assumption | omega | (simp only [fP] <;> omega));(case hN => rfl)));exact k.pf) | fail):G := h ⟨k⟩
theorem IM {G K:Prop}(k:K) (h:Hy K → G := by first|(intro k;(first|((with_reducible apply Ao);(case hj => rfl);(case hb => rfl);(case hN => rfl)) | ((with_reducible apply z4);(case hj => rfl);(case hb => rfl);(case hN => rfl);(case hw => first|rfl | assumption)) | ((with_reducible apply vY);(case hj => rfl);(case hb => rfl);(case hN => rfl);(case hw => first|rfl | assumption)) );exact k.pf) | fail):G := h ⟨k⟩
theorem IK {G K:Prop}(k:K) (h:Hy K → G := by first|(intro k;(first|((with_reducible apply Fy);(case hx => rfl);(case hy => rfl);(case h => rfl);(case hN => rfl)) | ((with_reducible apply Hb);(case hx => rfl);(case hy => rfl);(case hk => infer_instance);(case ha => infer_instance);(case hb => infer_instance);(case hN => rfl)) | ((with_reducible apply Es);(case hx => rfl);(case hy => rfl);(case hk => infer_instance);(case ha => infer_instance);(case hN => rfl))  | ((with_reducible apply FN);(case hx => rfl);(case hy => rfl);(case hk => infer_instance);(case ha => infer_instance);(case h => omega);(case hN => rfl)) | ((with_reducible apply Gw);(case hx => rfl);(case hy => rfl);(case h => omega);(case hN => rfl)) | ((with_reducible apply GD);(case hx => rfl);(case hy => rfl);(case h => omega);(case hN => rfl)) | ((with_reducible apply G4);(case hx => rfl);(case hy => rfl);(case h => omega);(case h' => omega);(case hN => rfl))  | ((with_reducible apply Hw);(case hx => rfl);(case hy => rfl);(case h => omega);(case hN => rfl)) | ((with_reducible apply Gm);(case hx => rfl);(case hy => rfl);(case h => omega);(case hN => rfl)) | ((with_reducible apply Gy);(case hx => rfl);(case hy => rfl);(case h => omega);(case hN => rfl)) | ((with_reducible apply GK);(case hx => rfl);(case hy => rfl);(case h => rfl);(case hN => rfl)));exact k.pf) | fail):G := h ⟨k⟩
theorem IS {G K:Prop}(k:K) (h:Hy K → G := by first|(intro k;(first|((with_reducible apply oH);(case hx => rfl);(case hi => rfl);(case hm => (first|assumption | omega));(case hml => (first|rfl|assumption|omega));(case hα => infer_instance);(case hf => infer_instance);(case hg => infer_instance);(case hN => rfl)) | ((with_reducible apply xZ);(case hx => rfl);(case hi => rfl);(case hm => (first|assumption | omega));(case hN => rfl)) | ((with_reducible apply qO);(case hx => rfl);(case hi => rfl);(case hm => (first|assumption | omega | exact ⟨Int.emod_nonneg _ (by omega),Int.emod_lt_of_pos _ (by omega)⟩));(case hml => (first|rfl|assumption|omega));(case hα => infer_instance);(case hf => infer_instance);(case hg => infer_instance);(case hN => rfl)) | ((with_reducible apply z3);(case hx => rfl);(case hi => rfl);(case hm => (first|assumption | omega | exact ⟨Int.emod_nonneg _ (by omega),Int.emod_lt_of_pos _ (by omega)⟩));(case hN => rfl)) | ((with_reducible apply uP);(case hx => rfl);(case hi => rfl);(case hm => first|omega | assumption);(case hp => rfl);(case hN => rfl)) | ((with_reducible apply wJ);(case hx => rfl);(case hi => rfl);(case hm => first|omega | assumption);(case hN => rfl)));exact k.pf) | fail):G := h ⟨k⟩
theorem IN {G K:Prop}(k:K) (h:Hy K → G := by first|(intro k;(first|((with_reducible apply GJ);(case hx => rfl);(case hn => rfl);(case hN => rfl)) | ((with_reducible apply E3);(case hx => rfl);(case hN => rfl)) | ((with_reducible apply c8);(case hx => rfl);(case hy => rfl);(case hze => rfl);(case he0 => rfl);(case hH => rfl);(case hl => first|(rw [aI]; omega) | (rw [aI]; simp only [fP] <;> omega) | (simp [aI]; done) | decide | (simp;omega));(case hs' => first|rfl | exact G5 (by (first|rfl | assumption | omega)));(case hbig => omega);(case hmx => omega);(case hcs => first|exact vH (by (first|assumption | omega | (simp only [fP] <;> omega) | decide)) | exact nG (by (first|assumption | omega | (simp only [fP] <;> omega) | decide))  | exact By (by (first|assumption | omega | (simp only [fP] <;> omega) | decide)) | exact DC (by (first|assumption | omega | (simp only [fP] <;> omega) | decide)) | exact Er (by (first|assumption | omega | (simp only [fP] <;> omega) | decide))    | exact (rfl:_ = [_]) | exact (rfl:_ = [_,_]) | exact (rfl:_ = [_,_,_]) | exact (rfl:_ = [_,_,_,_]) | exact (rfl:_ = [_,_,_,_,_]) | exact (rfl:_ = [_,_,_,_,_,_]) | exact (rfl:_ = [_,_,_,_,_,_,_]) | exact (rfl:_ = [_,_,_,_,_,_,_,_]) | rfl);(case hM => rfl);(case hN => rfl)));exact k.pf) | fail):G := h ⟨k⟩
theorem IF {G K:Prop}(k:K) (h:Hy K → G := by first|(intro k;(first|((with_reducible apply AG);(case hl => rfl);(case hf => (first|exact (rfl:_ = some [_]) | exact (rfl:_ = some [_,_]) | exact (rfl:_ = some [_,_,_]) | exact (rfl:_ = some [_,_,_,_]) | exact (rfl:_ = some [_,_,_,_,_]) | exact (rfl:_ = some [_,_,_,_,_,_]) | exact (rfl:_ = some [_,_,_,_,_,_,_]) | exact (rfl:_ = some [_,_,_,_,_,_,_,_]) | rfl));(case hk => (first|exact (rfl:_ = [_]) | exact (rfl:_ = [_,_]) | exact (rfl:_ = [_,_,_]) | exact (rfl:_ = [_,_,_,_]) | exact (rfl:_ = [_,_,_,_,_]) | exact (rfl:_ = [_,_,_,_,_,_]) | exact (rfl:_ = [_,_,_,_,_,_,_]) | exact (rfl:_ = [_,_,_,_,_,_,_,_]) | rfl));(case hN => rfl)) | ((with_reducible apply n4);(case hl => rfl);(case hf => (first|exact (rfl:_ = some [_]) | exact (rfl:_ = some [_,_]) | exact (rfl:_ = some [_,_,_]) | exact (rfl:_ = some [_,_,_,_]) | exact (rfl:_ = some [_,_,_,_,_]) | exact (rfl:_ = some [_,_,_,_,_,_]) | exact (rfl:_ = some [_,_,_,_,_,_,_]) | exact (rfl:_ = some [_,_,_,_,_,_,_,_]) | rfl));(case hN => rfl)));exact k.pf) | fail):G := h ⟨k⟩
theorem IE {G K:Prop}(k:K) (h:Hy K → G := by first|(intro k;(first|((with_reducible apply jU);(case hze => rfl);(case hsm => rfl);(case hl => rfl);(case hfl => (first|exact (rfl:_ = some [_]) | exact (rfl:_ = some [_,_]) | exact (rfl:_ = some [_,_,_]) | exact (rfl:_ = some [_,_,_,_]) | exact (rfl:_ = some [_,_,_,_,_]) | exact (rfl:_ = some [_,_,_,_,_,_]) | exact (rfl:_ = some [_,_,_,_,_,_,_]) | exact (rfl:_ = some [_,_,_,_,_,_,_,_]) | rfl));(case hM => rfl);(case hN => rfl)) | ((with_reducible apply o7);(case hx => rfl);(case hy => rfl);(case hze => rfl);(case hsm => omega);(case hmx => omega);(case hcs => first|exact mk_nat | exact mk_natW | exact CW | exact E1 | rfl);(case hM => rfl);(case hN => rfl)));exact k.pf) | fail):G := h ⟨k⟩
theorem IP {G K:Prop}(k:K) (h:Hy K → G := by first|(intro k;(first|((with_reducible apply bH);(case hx => rfl);(case hy => rfl);(case hc => rfl);(case hn => rfl);(case hH => rfl);(case hl => (first|decide|(rw [aI]; simp only [fP] <;> omega)|omega|(simp;done)|(simp;omega)));(case hcs => first|exact FY (by (first|assumption | omega | (simp only [fP] <;> omega) | decide)) | exact Ik (by (first|assumption | omega | (simp only [fP] <;> omega) | decide)) | exact HL (by (first|assumption | omega | (simp only [fP] <;> omega) | decide)) | exact Ir (by (first|assumption | omega | (simp only [fP] <;> omega) | decide)) | exact zF (by (first|assumption | omega | (simp only [fP] <;> omega) | decide)) | exact CD (by (first|assumption | omega | (simp only [fP] <;> omega) | decide)) | exact CF (by (first|assumption | omega | (simp only [fP] <;> omega) | decide))  | exact yA (by (first|assumption | omega | (simp only [fP] <;> omega) | decide)) | exact B0 (by (first|assumption | omega | (simp only [fP] <;> omega) | decide))   | exact rP (by (first|assumption | omega | (simp only [fP] <;> omega) | decide))  | exact (rfl:_ = [_]) | exact (rfl:_ = [_,_]) | exact (rfl:_ = [_,_,_]) | exact (rfl:_ = [_,_,_,_]) | exact (rfl:_ = [_,_,_,_,_]) | exact (rfl:_ = [_,_,_,_,_,_]) | exact (rfl:_ = [_,_,_,_,_,_,_]) | exact (rfl:_ = [_,_,_,_,_,_,_,_]) | rfl)) | ((with_reducible apply sY);(case hx => rfl);(case hy => rfl);(case hH => rfl);(case hl => first|assumption | omega | (simp only [fP] <;> omega));(case hc => first|rfl | (rw [eC]; first|assumption | (simp only [fP] <;> omega)))));exact k.pf) | fail):G := h ⟨k⟩
theorem Du {G K:Prop}(k:K) (h:Hy K → G := by first|(intro k;(first|((with_reducible apply aD);first|((with_reducible apply Fg);(case hx => rfl);(case hN => rfl)) | ((with_reducible apply Fl);refine IH ?_) | ((with_reducible apply sD);(case hx => rfl);(case hp => rfl);(case hN => rfl)) | ((with_reducible apply HV);refine IM ?_) | ((with_reducible apply Gr);refine IK ?_) | ((with_reducible apply qI);(case hx => rfl);(case hN => rfl)) | ((with_reducible apply El);first|((with_reducible apply C7);(case hc => rfl);(case hb => first|rfl | assumption);(case hx => rfl);(case hN => rfl)) | ((with_reducible apply B4);(case hc => rfl);(case hb => first|rfl | assumption);(case hx => rfl);(case hN => rfl))) | ((with_reducible apply Hs);refine IS ?_) | ((with_reducible apply Ij);refine IN ?_) | ((with_reducible apply Gx);(case hf => kernel_rfl)) | ((with_reducible apply ER);first|((with_reducible apply pT);(case hx => rfl);(case h => first|exact FV _ | omega);(case hN => rfl)) ) | ((with_reducible apply HM);first|((with_reducible apply v5);(case hx => rfl);(case hi => rfl);(case hl => first|assumption | omega | (simp only [fP] <;> omega));(case hm => omega);(case hN => rfl))) | ((with_reducible apply GQ);refine IF ?_) | ((with_reducible apply G8);first|((with_reducible apply Ak);(case hx => rfl);(case hf => infer_instance);(case hl => rfl);(case hh => rfl);(case hb => first|omega | (simp only [List.length_take,List.length_drop,Int.toNat_natCast]; omega));(case hN => rfl))) | ((with_reducible apply iZ);(case hf => rfl);(case hc => rfl);(case hN => rfl)) | ((with_reducible apply GI);(case hx => rfl);(case hN => rfl)) | ((with_reducible apply GV);(case hx => rfl);(case hp => rfl);(case hN => rfl)) | ((with_reducible apply G2);(case hx => rfl);(case hc => rfl);(case hM => rfl);(case hN => rfl)) | ((with_reducible apply BN);(case hM => rfl);(case hN => rfl)) | ((with_reducible apply w5);(case hx => rfl);(case hc => rfl);(case hN => rfl)) | refine IE ?_ | refine IP ?_));exact k.pf) | fail):G := h ⟨k⟩
theorem IC {G K:Prop}(k:K) (h:Hy K → G := by first|(intro k;(first|((with_reducible apply zB);first|with_reducible apply F7 | with_reducible apply Ae | ((with_reducible apply CC);(case hc => rfl);(case hb => first|rfl | assumption)) | ((with_reducible apply BL);(case hc => rfl);(case hb => first|rfl | assumption)) | with_reducible apply B2 | with_reducible apply D5 | with_reducible apply Fb | with_reducible apply Gk ) | with_reducible apply Be | with_reducible apply Hf | with_reducible apply FM | with_reducible apply AB | with_reducible apply Gz | with_reducible apply Eb | ((with_reducible apply bq_out);(case hij => decide)));exact k.pf) | fail):G := h ⟨k⟩
theorem aM {G c1 q1 c2 q2 K1 K2:Prop}(k1:c1 → q1 → K1) (k2:c2 → q2 → K2) (h:Hy (c1 → q1 → K1) → Hy (c2 → q2 → K2) → G := by first|(intro k1 k2;(with_reducible apply zB);(with_reducible apply rZ);(case hc => rfl);(intro hc;have hq := hc;(try simp only [IA] at hq);first|exact k1.pf hc hq | exact k1.pf hc trivial);(intro hc;have hq := hc;(try simp only [IA] at hq);first|exact k2.pf hc hq | exact k2.pf hc trivial)) | fail):G := h ⟨k1⟩ ⟨k2⟩
theorem bS {G c1 q1 c2 q2 K1 K2:Prop}(k1:c1 → q1 → K1) (k2:c2 → q2 → K2) (h:Hy (c1 → q1 → K1) → Hy (c2 → q2 → K2) → G := by first|(intro k1 k2;(with_reducible apply aD);(with_reducible apply HV);(with_reducible apply Bk);(case hj => rfl);(case hb => rfl);(case hN => rfl);(intro hc;have hq := hc;(try simp only [IA] at hq);first|exact k1.pf hc hq | exact k1.pf hc trivial);(intro hc;have hq := hc;(try simp only [IA] at hq);first|exact k2.pf hc hq | exact k2.pf hc trivial)) | fail):G := h ⟨k1⟩ ⟨k2⟩
theorem cE {G K:Prop}(k:K) (h:Hy K → G := by first|(intro k;(with_reducible apply zB);(with_reducible apply EW);(case hm => kernel_rfl);exact k.pf) | fail):G := h ⟨k⟩
theorem cS {G K:Prop}(k:K) (h:Hy K → G := by first|(intro k;(with_reducible apply aB);(case hr => rfl);exact k.pf) | fail):G := h ⟨k⟩
theorem u5 {ts:List (Nat × AV)}:kO [] ts = [] := rfl
theorem pS {k:Nat}{v:AV}{ks:List Nat}{ts kt:List (Nat × AV)}(h:lk ts k = some v) (h2:kO ks ts = kt):kO (k :: ks) ts = (k,v) :: kt:=by
 subst h2;simp [kO,h]
theorem uM {hs:List (Nat × Option (List AV))}:lI [] hs = [] := rfl
theorem qN {k:Nat}{v:List AV}{ks:List Nat}{hs kh:List (Nat × Option (List AV))}(h:aN hs k = some v) (h2:lI ks hs = kh):lI (k :: ks) hs = (k,some v) :: kh:=by
 subst h2;simp [lI,h]
section
variable {P : Program} {N : Nat} {Q : Exit → AS → Prop} {σ : Type} {c : Code} {ts : List (Nat × AV)} {hs : List (Nat × Option (List AV))} {n : Nat} {z0 : Lo}
theorem aL (ks js:List Nat){kt:List (Nat × AV)}{kh:List (Nat × Option (List AV))}(ot:σ → List (Nat × AV)) (oh:σ → List (Nat × Option (List AV))) (p:σ → Prop) (μ:σ → Nat) (i0:σ) (h0:p i0)
  (round : ∀ i,p i → AW P N c (kS (fun s' => ∃ j,p j ∧ μ j < μ i ∧ Le s' ⟨ot j ++ kt,oh j ++ kh,n,z0⟩) Q) ⟨ot i ++ kt,oh i ++ kh,n,z0⟩)
  (hk : kO ks ts = kt := by repeat' (first|exact u5|(apply pS;rfl))) (hj : lI js hs = kh := by repeat' (first|exact uM|(apply qN;rfl)))
  (h1 : k0 ts (ot i0) := by repeat' (first|exact trivial|refine And.intro rfl ?_)) (h2 : jT hs (oh i0) := by repeat' (first|exact trivial|refine And.intro (.inr rfl) ?_)) : AW P N (.loop c) Q ⟨ts,hs,n,z0⟩ :=
 BS ks kt js kh ot oh p μ i0 h0 hk hj h1 h2 round
theorem dQ (Rf:σ → List (List Bool)) (ks js:List Nat){kt:List (Nat × AV)}{kh:List (Nat × Option (List AV))}(ot:σ → List (Nat × AV)) (oh:σ → List (Nat × Option (List AV))) (p:σ → Prop) (μ:σ → Nat) (i0:σ) (h0:p i0)
  (round : ∀ i,p i → AW P N c (kS (fun s' => ∃ j,p j ∧ μ j < μ i ∧ Le s' ⟨ot j ++ kt,(oh j ++ kh) ++ dY (Rf j),n,⟨0,aU + (Rf j).length⟩⟩) Q) ⟨ot i ++ kt,(oh i ++ kh) ++ dY (Rf i),n,⟨0,aU + (Rf i).length⟩⟩)
  (hk : kO ks ts = kt := by repeat' (first|exact u5|(apply pS;rfl))) (hj : lI js hs = kh := by repeat' (first|exact uM|(apply qN;rfl)))
  (h1 : k0 ts (ot i0) := by repeat' (first|exact trivial|refine And.intro rfl ?_)) (h2 : jT hs (oh i0) := by repeat' (first|exact trivial|refine And.intro (.inr rfl) ?_))
  (hF : FamR (Rf i0) (Rf i0) hs hs := by repeat' (first|exact FamR.here|exact FamR.nil|(apply FamR.cons;focus rfl))) (hz : z0 = ⟨0,aU + (Rf i0).length⟩ := by first|rfl|(simp only [FL])) : AW P N (.loop c) Q ⟨ts,hs,n,z0⟩ :=
 BB 0 Rf ks kt js kh ot oh p μ i0 h0 hk hj h1 h2 hF hz round
end
theorem Le.renA (m:List (Nat × Nat)){ts ts':List (Nat × AV)}{hs hs':List (Nat × Option (List AV))}{n n':Nat}{lo:Lo}(hm:CN lo.lo n' m = true := by rfl) (hn:lo.lo ≤ n' := by decide)
  (h1 : Dz m lo ts ts' := by repeat' (first|exact trivial|refine And.intro ⟨_,rfl,?_⟩ ?_|refine And.intro ⟨_,_,rfl,rfl,?_⟩ ?_|exact Or.inr rfl|refine Or.inl ⟨?_,(by first|rfl|exact bZ _ _|exact Pur.pf|exact PurV.pf)⟩|refine Or.inr (All2.cons ?_ ?_)|refine All2.cons ?_ ?_|exact All2.nil|rfl))
  (h2 : wB m lo hs hs' := by repeat' (first|exact trivial|refine And.intro ⟨_,rfl,?_⟩ ?_|refine And.intro ⟨_,_,rfl,rfl,?_⟩ ?_|exact Or.inr rfl|refine Or.inl ⟨?_,(by first|rfl|exact bZ _ _|exact Pur.pf|exact PurV.pf)⟩|refine Or.inr (All2.cons ?_ ?_)|refine All2.cons ?_ ?_|exact All2.nil|rfl)) : Le ⟨ts,hs,n,lo⟩ ⟨ts',hs',n',lo⟩ :=
 Le.ren m hm hn h1 h2
section
variable {P : Program} {k : FuncId} {fn : Func} {c : Code} {args : List AV} {N : Nat}
theorem aC {Q:AV → Prop}(hf:P.funcs[k]? = some fn) (hn:fn.ntmps = N) (h:AW P N c (kY P fn.results (fun r _ => Q r ∧ r.pur = true)) ⟨fF 0 args,[],0,⟨0,aU⟩⟩) (hb:fn.body = some c := by rfl)
  (hN : args.length ≤ N := by simp) : PC P k args Q := by subst hn;exact CE hf hb hN h
theorem aQ {σ:Type}{H0:List (Nat × Option (List AV))}{n:Nat}{p:σ → Prop}{rr:σ → AV}{hh:σ → List (Nat × Option (List AV))}(hf:P.funcs[k]? = some fn) (hn:fn.ntmps = N)
  (h : AW P N c (kY P fn.results (fun r H' => ∃ x,p x ∧ r = rr x ∧ ∀ id cs,aN (hh x) id = some cs → H' id = some cs)) ⟨fF 0 args,H0,n,⟨n,aU⟩⟩) (hb : fn.body = some c := by rfl)
  (hN : args.length ≤ N := by simp) : MC P k args H0 n p rr hh := by subst hn;exact BQ hf hb hN h
theorem tN {R0:List (List Bool)}{r:AV}{hh:List (Nat × Option (List AV))}(hf:P.funcs[k]? = some fn) (hn:fn.ntmps = N)
  (h : AW P N c (kY P fn.results (fun r' H' => r' = r ∧ ∀ id cs,aN (hh ++ dY R0) id = some cs → H' id = some cs)) ⟨fF 0 args,dY R0,0,⟨0,aU + R0.length⟩⟩) (hb : fn.body = some c := by rfl)
  (hN : args.length ≤ N := by simp) : HB P k args R0 r hh := by subst hn;exact CB hf hb hN h
end
def Em (op : BinOp) (a b : ByteArray) : Option Value :=
 match op with
 | .add => if a.size + b.size ≤ 9000000000000000000 then some (.string (a ++ b)) else none
 | .eql => some (.bool (a.toList == b.toList))
 | .neq => some (.bool (!(a.toList == b.toList)))
 | _ => none
def BR (s : ByteArray) (l : List Int) : ByteArray := l.foldl (fun r n => r.push (UInt8.ofNat n.toNat)) s
section
variable {P : Program} {C : Ctx} {ι : Pl} {T : Nat → Option AV} {F : Nat → Prop} {H : Nat → Option (List AV)} {a : Act} {w : World} {o : Oper}
theorem Ep (g:TG C ι T H a w){op:BinOp}{t t':TypeId}{x y:Operand}{m n:ByteArray}{v:Value}(ho:o.op = .binOp op t x y t')
  (hx : ev T x = some (.v (.string m))) (hy : ev T y = some (.v (.string n))) (h : Em op m n = some v) : Pu P C ι H a w o (.v v) := by
 have h1 := a7 g hx
 have h2 := a7 g hy
 simp only [Rd] at h1 h2
 refine ⟨v,?_,by simp [Rd]⟩
 have hg : (eqGuard op t x y (.string m) (.string n)).run P w = .ok () w := by
  unfold eqGuard
  cases op <;> simp
 have hb : (binOp op t (.string m) (.string n)).run P w = .ok v w := by
  cases op <;> simp only [Em] at h <;> first|(cases h;done)|skip
  ·split at h
   ·rename_i hs
    cases h
    have h9 : ¬ (((m.size + n.size : Nat) : Int) > IntKind.i64.max) := by
     have : IntKind.i64.max = 9223372036854775807 := rfl
     omega
    show ((if ((m.size + n.size : Nat) : Int) > IntKind.i64.max then _ else pure (.string (m ++ n)) : Sem Value)).run P w = _
    rw [if_neg h9]; simp
   ·cases h
  all_goals (cases h;simp [binOp,Op.stringOp])
 simp only [execOp,ho,h1,h2,Sem.run_bind,hg,Result.andThen_ok,hb,Sem.run_pure]
theorem tH {bad:Nat → Prop}{k:IntKind}:∀ {ns:List Int}{l:List Value},RdL w bad ι (ns.map fun n => .v (.int k n)) l → l = ns.map (Value.int k)
 | [],l,h => by simp only [List.map_nil,RdL] at h;exact h
 | n :: ns, l, h => by
  simp only [List.map_cons,RdL] at h
  obtain ⟨x,l',rfl,h0,h1,h2⟩ := h
  simp only [Rd] at h1
  rw [h1,tH h2,List.map_cons]
theorem Gl (g:TG C ι T H a w) (gh:HG C ι F H w){s t el:TypeId}{x:Operand}{av:AV}{m:Nat}{ns:List Int}(ho:o.op = .convert s t x) (hx:ev T x = some av)
  (ht : jB P s = some el) (hu : vG P el = some .u8) (hst : P.underlying t = some .string) (hs : sCells H 1 (lS av) = some (m,ns.map fun n => .v (.int .u8 n))) :
  Pu P C ι H a w o (.v (.string (BR .empty ns))) := by
 obtain ⟨ad,c,l,h1,h2,h3,h4,h5⟩ := pU gh (j3 (a7 g hx)) hs
 have hl := tH h3
 have hll : ns.length = m := by have := h2;rw [hl] at this;simpa using this
 refine ⟨.string (BR .empty ns),?_,by simp [Rd]⟩
 have hcv : (convert s t (.slice ad m c)).run P w = (Conv.bytesToString (.slice ad m c)).run P w := run_convert_bytes_string w s t el ad m c (gA ht) (xU hu) hst
 have hrun : (Conv.bytesToString (.slice ad m c)).run P w = .ok (.string (BR .empty ns)) w := by
  cases ad with
  | none =>
   rcases h5 with ⟨b,o',h⟩|h
   ·cases h
   ·subst h
    have : ns = [] := List.eq_nil_of_length_eq_zero hll
    subst this
    rfl
  | some ad =>
   have hload : (loadCells ad m).run P w = .ok (ns.map (Value.int .u8)).toArray w := by
    rcases h5 with ⟨b,o',h⟩|h
    ·cases h
     have := run_loadCells_list (P := P) w ⟨b,o',none⟩ l (fun j v hj => by rw [Addr.add_lit]; exact h4 b o' rfl j v hj)
     rw [h2,Nat.mul_one,hl] at this
     exact this
    ·subst h
     have : ns = [] := List.eq_nil_of_length_eq_zero hll
     subst this
     simp [loadCells,loadCellsFrom]
   exact run_bytesToString w ad m c ns hload
 simp only [execOp,ho,h1,Sem.run_bind,hcv,hrun,Result.andThen_ok,Sem.run_pure]
end
section
variable {P : Program} {N : Nat} {Q : Exit → AS → Prop} {all : Array Oper} {rest : List Oper} {ts : List (Nat × AV)} {hs : List (Nat × Option (List AV))} {n : Nat} {z0 : Lo} {md : Md}
variable {d : Nat} {ty : TypeId} {pos : String} {af : Array Edge}
theorem g9 {op:BinOp}{t t':TypeId}{x y:Operand}{m m':ByteArray}{v:Value}(hx:ev (lk ts) x = some (.v (.string m))) (hy:ev (lk ts) y = some (.v (.string m')))
  (h : Em op m m' = some v) (hN : Nat.blt d N = true) {md' : Md} [hmd : MdA md (rO x ++ rO y) [.inl d] md'] (kk : RW P N all Q md' rest ⟨(d,.v v) :: ts,hs,n,z0⟩) : RW P N all Q md (⟨some d,.binOp op t x y t',ty,pos,af,none⟩ :: rest) ⟨ts,hs,n,z0⟩ :=
 cM rfl rfl (b0 hN) (fun C ι F T H a w ag g gh => Ep g rfl (ag.l.ev.trans hx) (ag.r.ev.trans hy) h) (by rw [hmd.pf]; exact kk)
theorem BC {s t el:TypeId}{x:Operand}{av:AV}{m:Nat}(ns:List Int) [ht:SlT P s el] [hu:InT P el .u8] [hst:StT P t] (hx:ev (lk ts) x = some av)
  (hs' : sCells (aN hs) 1 (lS av) = some (m,ns.map fun n => .v (.int .u8 n))) (hN : Nat.blt d N = true) {md' : Md} [hmd : MdA md (rO x ++ rA av) [.inl d] md'] (kk : RW P N all Q md' rest ⟨(d,.v (.string (BR .empty ns))) :: ts,hs,n,z0⟩) :
  RW P N all Q md (⟨some d,.convert s t x,ty,pos,af,none⟩ :: rest) ⟨ts,hs,n,z0⟩ :=
 cM rfl rfl (b0 hN) (fun C ι F T H a w ag g gh => Gl g gh rfl (ag.l.ev.trans hx) ht.pf hu.pf hst.pf (ag.r.sCells.trans hs')) (by rw [hmd.pf]; exact kk)
theorem lT {t:TypeId}{x i:Operand}{s:ByteArray}{k:IntKind}{m:Int}[ht:StT P t] (hx:ev (lk ts) x = some (.v (.string s)))
  (hi : ev (lk ts) i = some (.v (.int k m))) (hm : 0 ≤ m ∧ m < (s.size : Int)) (hN : Nat.blt d N = true) {md' : Md} [hmd : MdA md (rO x ++ rO i) [.inl d] md'] (kk : RW P N all Q md' rest ⟨(d,.v (.int .u8 ((s[m.toNat]!).toNat : Int))) :: ts,hs,n,z0⟩) :
  RW P N all Q md (⟨some d,.index t x i,ty,pos,af,none⟩ :: rest) ⟨ts,hs,n,z0⟩ :=
 z7 (b := s[m.toNat]!) hx hi ht.pf hm.1 (by rw [getElem!_pos s m.toNat (by omega),getElem?_pos s m.toNat (by omega)]) (b0 hN) (by rw [hmd.pf]; exact kk)
theorem zX {t:TypeId}{x:Operand}{lo hi:Option Operand}{s:ByteArray}{l h:Nat}[ht:StT P t] (hx:ev (lk ts) x = some (.v (.string s)))
  (hl : dX (lk ts) lo 0 = some l) (hh : dX (lk ts) hi s.size = some h) (hc : l ≤ h ∧ h ≤ s.size) (hN : Nat.blt d N = true) {md' : Md} [hmd : MdA md (rO x ++ (rB lo ++ rB hi)) [.inl d] md'] (kk : RW P N all Q md' rest ⟨(d,.v (.string (s.extract l h))) :: ts,hs,n,z0⟩) :
  RW P N all Q md (⟨some d,.slice t x lo hi none,ty,pos,af,none⟩ :: rest) ⟨ts,hs,n,z0⟩ := AE hx ht.pf hl hh hc (b0 hN) (by rw [hmd.pf]; exact kk)
theorem B7 (m:Int) (h:0 ≤ m ∧ m ≤ 255):IntKind.u8.wrap m = m:=by
 have : IntKind.u8.wrap m = m % 256 := rfl
 rw [this]; omega
theorem Eu {t t':TypeId}{x y:Operand}{m m':Int}(hx:ev (lk ts) x = some (.v (.int .u8 m))) (hy:ev (lk ts) y = some (.v (.int .u8 m')))
  (h : 0 ≤ m + m' ∧ m + m' ≤ 255) (hN : Nat.blt d N = true) {md' : Md} [hmd : MdA md (rO x ++ rO y) [.inl d] md'] (kk : RW P N all Q md' rest ⟨(d,.v (.int .u8 (m + m'))) :: ts,hs,n,z0⟩) : RW P N all Q md (⟨some d,.binOp .add t x y t',ty,pos,af,none⟩ :: rest) ⟨ts,hs,n,z0⟩ :=
 cZ hx hy (.inl rfl) (v := .int .u8 (m + m')) (by simp only [eD,B7 _ h]) (b0 hN) (by rw [hmd.pf]; exact kk)
theorem yC {t t':TypeId}{x y:Operand}{m m':Int}(hx:ev (lk ts) x = some (.v (.int .u8 m))) (hy:ev (lk ts) y = some (.v (.int .u8 m')))
  (h : 0 ≤ m - m' ∧ m - m' ≤ 255) (hN : Nat.blt d N = true) {md' : Md} [hmd : MdA md (rO x ++ rO y) [.inl d] md'] (kk : RW P N all Q md' rest ⟨(d,.v (.int .u8 (m - m'))) :: ts,hs,n,z0⟩) : RW P N all Q md (⟨some d,.binOp .sub t x y t',ty,pos,af,none⟩ :: rest) ⟨ts,hs,n,z0⟩ :=
 cZ hx hy (.inl rfl) (v := .int .u8 (m - m')) (by simp only [eD,B7 _ h]) (b0 hN) (by rw [hmd.pf]; exact kk)
theorem uU {s t:TypeId}{x:Operand}{k':IntKind}{m:Int}[hd:InT P t .u8] [hs':InT P s k'] (hx:ev (lk ts) x = some (.v (.int k' m))) (h:0 ≤ m ∧ m ≤ 255) (hN:Nat.blt d N = true){md':Md}[hmd:MdA md (rO x) [.inl d] md'] (kk:RW P N all Q md' rest ⟨(d,.v (.int .u8 m)) :: ts,hs,n,z0⟩) :
  RW P N all Q md (⟨some d,.convert s t x,ty,pos,af,none⟩ :: rest) ⟨ts,hs,n,z0⟩ := yT hx hd.pf hs'.pf (b0 hN) (by rw [hmd.pf,B7 _ h]; exact kk)
end
theorem lM (n:Int):(BR .empty [n]).size = 1 := rfl
theorem mM {a b:ByteArray}(h:a.size + b.size ≤ 9000000000000000000):Em .add a b = some (.string (a ++ b)) := if_pos h
def DX (l : List Int) : ByteArray := l.foldl (fun r n => r.push (UInt8.ofNat n.toNat)) .empty
def dW (v : Int) : ByteArray := DX [97 + v]
def w9 (n : Int) : ByteArray := DX [48 + n] ++ .empty
theorem kW (l:List UInt8):ByteArray.size ⟨l.toArray⟩ = l.length := rfl
theorem jH (v:Int):(dW v).size = 1 := rfl
theorem jL (v:Int):(w9 v).size = 1 := by simp [w9,DX,ByteArray.size_append]
def l5 (out : ByteArray) (k : Nat) (t : ByteArray) : ByteArray := (if 0 < k then out ++ ⟨#[59]⟩ else out) ++ t
mutual
def iD : Stmt → ByteArray
 | .mk op x y n th el =>
  if op = 1 then (dW x ++ ⟨#[61]⟩) ++ w9 n
  else if op = 2 then (dW x ++ ⟨#[61,98,111,120,32]⟩) ++ w9 n
  else if op = 3 then (dW x ++ ⟨#[61]⟩) ++ dW y
  else if op = 4 then (dW x ++ ⟨#[61,38]⟩) ++ dW y
  else if op = 5 then (dW x ++ ⟨#[61,38,109,117,116,32]⟩) ++ dW y
  else if op = 6 then (dW x ++ ⟨#[61,42]⟩) ++ dW y
  else if op = 7 then ((⟨#[42]⟩ ++ dW x) ++ ⟨#[61]⟩) ++ dW y
  else if op = 8 then ⟨#[100,114,111,112,32]⟩ ++ dW x
  else if op = 10 then (⟨#[108,111,111,112,123]⟩ ++ iC .empty 0 th) ++ ⟨#[125]⟩
  else (((⟨#[105,102,123]⟩ ++ iC .empty 0 th) ++ ⟨#[125,123]⟩) ++ iC .empty 0 el) ++ ⟨#[125]⟩
def iC (out : ByteArray) (k : Nat) : List Stmt → ByteArray
 | [] => out
 | s :: l => iC (l5 out k (iD s)) (k + 1) l
end
def fL (l : List Stmt) : ByteArray := iC .empty 0 l
theorem oG:∀ (l:List Stmt) (out:ByteArray) (k:Nat) (s:Stmt),iC out k (l ++ [s]) = l5 (iC out k l) (k + l.length) (iD s)
 | [],out,k,s => by simp only [List.nil_append,iC,List.length_nil,Nat.add_zero]
 | x :: l, out, k, s => by
  simp only [List.cons_append,iC,oG l,List.length_cons]
  rw [show k + 1 + l.length = k + (l.length + 1) from by omega]
theorem nE (l:List Stmt) (k:Nat) (h:k < l.length):fL (l.take (k + 1)) = l5 (fL (l.take k)) k (iD l[k]!):=by
 rw [bD _ _ h,fL,oG,List.length_take,Nat.min_eq_left (by omega),Nat.zero_add]; rfl
theorem A3 (s:Stmt):iD s = 
  if s.op = 1 then (dW s.x ++ ⟨#[61]⟩) ++ w9 s.n
  else if s.op = 2 then (dW s.x ++ ⟨#[61,98,111,120,32]⟩) ++ w9 s.n
  else if s.op = 3 then (dW s.x ++ ⟨#[61]⟩) ++ dW s.y
  else if s.op = 4 then (dW s.x ++ ⟨#[61,38]⟩) ++ dW s.y
  else if s.op = 5 then (dW s.x ++ ⟨#[61,38,109,117,116,32]⟩) ++ dW s.y
  else if s.op = 6 then (dW s.x ++ ⟨#[61,42]⟩) ++ dW s.y
  else if s.op = 7 then ((⟨#[42]⟩ ++ dW s.x) ++ ⟨#[61]⟩) ++ dW s.y
  else if s.op = 8 then ⟨#[100,114,111,112,32]⟩ ++ dW s.x
  else if s.op = 10 then (⟨#[108,111,111,112,123]⟩ ++ fL s.th) ++ ⟨#[125]⟩
  else (((⟨#[105,102,123]⟩ ++ fL s.th) ++ ⟨#[125,123]⟩) ++ fL s.el) ++ ⟨#[125]⟩ := by
 cases s;rw [iD]; rfl
mutual
theorem mW:∀ s,(iD s).size + 1 ≤ 11 * bJ s
 | .mk op x y n th el => by
  have h1 := gY th .empty 0
  have h2 := gY el .empty 0
  have h3 : ByteArray.size .empty = 0 := rfl
  rw [iD]
  simp only [bJ]
  repeat' split
  all_goals simp only [ByteArray.size_append,kW,List.length_cons,List.length_nil,jH,jL]
  all_goals omega
theorem gY:∀ (l:List Stmt) (out:ByteArray) (k:Nat),(iC out k l).size ≤ out.size + 11 * aK l
 | [],out,k => by simp only [iC,aK]; omega
 | s :: l, out, k => by
  have h1 := mW s
  have h2 := gY l (l5 out k (iD s)) (k + 1)
  have h3 : (l5 out k (iD s)).size ≤ out.size + 1 + (iD s).size := by
   unfold l5;split <;> simp only [ByteArray.size_append,kW,List.length_cons,List.length_nil] <;> omega
  simp only [iC,aK]
  omega
end
theorem gZ (l:List Stmt):(fL l).size ≤ 11 * aK l:=by
 have := gY l .empty 0
 have h3 : ByteArray.size .empty = 0 := rfl
 unfold fL;omega
theorem Bl {ts:List Int}{s:Stmt}(ht:a6 ts = true) (h:cD ts s = true):1 ≤ s.op ∧ s.op ≤ 8 ∧ 0 ≤ s.x ∧ s.x ≤ 5 ∧ 0 ≤ s.y ∧ s.y ≤ 5 ∧ (s.op = 1 ∨ s.op = 2 → 0 ≤ s.n ∧ s.n ≤ 9):=by
 have hl := eQ ht
 have hx := hG ht s.x
 have hy := hG ht s.y
 unfold cD at h
 dsimp only at h
 repeat' split at h
 all_goals (first|(simp only [decide_eq_true_eq] at h;omega)|(simp at h;done))
end Go.AL
namespace Go.AL
def D3 (xs : List Bool) (k : Nat) : List Int := ((List.range k).filter (fun l => xs[l]!)).map (fun (l : Nat) => (l : Int))
theorem Fc {xs:List Bool}{k:Nat}(h:xs[k]! = true):D3 xs (k + 1) = D3 xs k ++ [(k:Int)]:=by
 unfold D3;rw [jP,if_pos h,List.map_append]; rfl
theorem Dc {xs:List Bool}{k:Nat}(h:xs[k]! = false):D3 xs (k + 1) = D3 xs k:=by
 unfold D3;rw [jP,if_neg (by rw [h]; decide),List.append_nil]
end Go.AL
namespace Go.AL
section
variable {P : Program} {C : Ctx} {ι : Pl} {F : Nat → Prop} {T : Nat → Option AV} {H : Nat → Option (List AV)} {a : Act} {w : World} {o : Oper}
theorem m7 (z:Array Value):∀ n,(Builtin.zeroCells z n).toList = (List.replicate n z.toList).flatten := fun n => by
 have := lE z n (n * z.size) rfl
 simpa [Builtin.zeroCells,madeCells] using this
end
theorem Le.cut {ts:List (Nat × AV)}{hs:List (Nat × Option (List AV))}{n:Nat}{z0:Lo}{i:Nat}{cs:List AV}(k:Nat) (hi:aN hs i = some cs) :
  Le ⟨ts,hs,n,z0⟩ ⟨ts,(i,some (cs.take k)) :: hs,n,z0⟩ := by
 rintro C a w ⟨h0,ι,g,gh⟩
 have hσ : ∀ id c, aN ((i, some (cs.take k)) :: hs) id = some c → ∃ c0, aN hs id = some c0 ∧ (c = c0 ∨ c = c0.take k) := by
  intro id c h
  rw [bN] at h
  split at h
  ·rename_i e;subst e;cases h;exact ⟨cs,hi,.inr rfl⟩
  ·exact ⟨c,h,.inl rfl⟩
 have car : Carry w (aF C.X ι (aN hs)) ι w (aF C.X ι (aN ((i, some (cs.take k)) :: hs))) ι := by
  refine ⟨fun b o' x h1 h2 => ⟨?_,h2⟩,fun _ _ h => h,fun _ => Nat.le_refl _⟩
  rintro (h | ⟨id,c,β,q1,q2⟩)
  ·exact h1 (.inl h)
  ·obtain ⟨c0, r, _⟩ := hσ id c q1
   exact h1 (.inr ⟨id,c0,β,r,q2⟩)
 refine ⟨h0,ι,⟨g.df,g.sz,fun t av ht => ?_⟩,⟨fun id c h => ?_,fun id id' c c' b β β' q1 q2 q3 q4 => ?_,gh.fr,gh.ex,gh.fresh⟩⟩
 ·obtain ⟨y, hy, hr⟩ := g.tm t av ht
  exact ⟨y,hy,Rd.carry car _ _ hr⟩
 ·obtain ⟨c0, r, e⟩ := hσ id c h
  rcases gh.obj id c0 r with ⟨h1,h2⟩ | ⟨b',β',arr',e',h1,h2,h3,h4,h5,h6⟩
  ·refine .inl ⟨h1, ?_⟩
   rcases e with e|e
   ·rw [e,h2]
   ·rw [e,h2]; simp
  ·refine .inr ⟨b', β', arr', e', h1, h2, ?_, ?_, h5, h6⟩
   ·rcases e with e | e
    ·rw [e]; exact h3
    ·rw [e,List.length_take]; omega
   ·have h7 := RdC.carryB car _ _ _ (fun o x hx => hx) h4
    rcases e with e|e
    ·rw [e]; exact h7
    ·rw [e]; exact RdC.take k h7
 ·obtain ⟨_, r1, _⟩ := hσ id c q1
  obtain ⟨_,r2,_⟩ := hσ id' c' q2
  exact gh.sep _ _ _ _ _ _ _ r1 r2 q3 q4
section
variable {P : Program} {N : Nat} {Q : Exit → AS → Prop} {all : Array Oper} {rest : List Oper} {ts : List (Nat × AV)} {hs : List (Nat × Option (List AV))} {n : Nat} {z0 : Lo}
variable {d : Nat} {ty : TypeId} {pos : String} {af : Array Edge}
theorem eT {fn:Go.Fn}{cs:Array Operand}{i:Nat}{cc c:List AV}(t:Nat) (hx:lk ts t = some (.optr i 0)) (hH:aN hs i = some cc) (hc:evL (lk ((t,.iptr cc) :: ts)) cs.toList = some c) (hN:Nat.blt d N = true)
  (kk : RW P N all Q .txt rest ⟨(d,.clos fn [] c) :: (t,.iptr cc) :: ts,(i,none) :: hs,n,z0⟩) : RW P N all Q .txt (⟨some d,.makeFunc fn #[] cs,ty,pos,af,none⟩ :: rest) ⟨ts,hs,n,z0⟩ :=
 fV (iZ (f := []) (c := c) rfl hc hN (md' := .txt) kk) (Le.frzP hx hH)
end
theorem w4 {ts:List Int}{v:Int}(h:0 < dC ts v):dC ts v = ts[v.toNat]!:=by
 unfold dC at h ⊢
 split at h
 ·rename_i c;rw [if_pos c]
 ·omega
end Go.AL
namespace Go.AL
open Go.RowKit
section
variable {P : Program} {C : Ctx} {ι : Pl} {T : Nat → Option AV} {F : Nat → Prop} {H : Nat → Option (List AV)} {a : Act} {w : World} {o : Oper}
theorem s8 {bad:Nat → Prop}{zs:List Value}(h:zs.all (·.oneCell') = true):∀ n,RdL w bad ι (List.replicate n (zs.map AV.v)).flatten (List.replicate n zs).flatten
 | 0 => by simp [RdL]
 | n + 1 => by
  rw [List.replicate_succ,List.replicate_succ,List.flatten_cons,List.flatten_cons]
  exact RdL.append (nR h) (s8 h n)
theorem Cc (gh:HG C ι F H w){t el:TypeId}{x:Operand}{id off n e:Nat}{cs:List AV}{zs:List Value}
  (ho : o.op = .call ⟨.builtin .clear,#[x],#[t]⟩) (hx : Rd w (aF C.X ι H) ι (.own id off n e) (a.eval x)) (hd : o.dst = none)
  (ht : jB P t = some el) (he : dH P el = some e) (hz : kK P el = some zs) (hze : zs.length = e)
  (hH : H id = some cs) (h0 : 0 < n) (hl : off + n * e ≤ cs.length) :
  Ef P C ι F H a w o (.tup []) (cP H id (some (fA cs off (List.replicate n (zs.map AV.v)).flatten))) := by
 obtain ⟨i,z,h1,h2,h3,h4⟩ := lB hz
 have hu := gA ht
 have hsz := sC he h1
 simp only [Rd] at hx
 rcases hx with ⟨_,rfl,_⟩ | ⟨b,β,c,p1,p2,p3,p4⟩
 ·omega
 have hlen : ((List.replicate n (zs.map AV.v)).flatten).length = n * e := by
  rw [List.length_flatten]; simp [hze]
 obtain ⟨w',q1,q2,q3⟩ := vA (P := P) gh hH p1 (off := off) (new := (List.replicate n (zs.map AV.v)).flatten) (by rw [hlen]; exact hl) (s8 h4 n)
 have hr : (Builtin.clear_ #[t] o.type #[a.eval x]).run P w = .ok (.tuple #[]) w' := by
  rw [p2]
  cases n with
  | zero => omega
  | succ n =>
   have hzc : (Builtin.zeroCells z.cells (n + 1)).toList = (List.replicate (n + 1) zs).flatten := by rw [m7,h3]
   simp [Builtin.clear_,bA hu,zeroValue,typeInfo,h1,h2,hzc,q1]
 refine ⟨.value (.tuple #[]),.tuple #[],ι,w',?_,.inl ⟨rfl,?_⟩,q2,q3⟩
 ·simp [execOp,ho,resolve,invoke,builtin,hr]
 ·simp only [Rd]; exact ⟨[],rfl,by simp [RdV]⟩
end
section
variable {P : Program} {N : Nat} {Q : Exit → AS → Prop} {all : Array Oper} {rest : List Oper} {ts : List (Nat × AV)} {hs : List (Nat × Option (List AV))} {n : Nat} {z0 : Lo} {md : Md}
variable {d : Nat} {ty : TypeId} {pos : String} {af : Array Edge}
theorem BK {t el id off m e:Nat}{x:Operand}{cs cs':List AV}{zs:List Value}[ht:SlT P t el] [he:SzT P el e] [hz:ZrT P el zs]
  (hx : ev (lk ts) x = some (.own id off m e)) (hze : zs.length = e) (h0 : 0 < m) (hH : aN hs id = some cs) (hl : off + m * e ≤ cs.length)
  (hcs : fA cs off (List.replicate m (zs.map AV.v)).flatten = cs') {md' : Md} [hmd : MdA md (rO x ++ [.inr id]) [.inr id] md'] (kk : RW P N all Q md' rest ⟨ts,(id,some cs') :: hs,n,z0⟩) :
  RW P N all Q md (⟨none,.call ⟨.builtin .clear,#[x],#[t]⟩,ty,pos,af,none⟩ :: rest) ⟨ts,hs,n,z0⟩ := by
 subst hcs
 exact x5 (rs := rO x ++ [.inr id]) (ws := [(id, some (fA cs off (List.replicate m (zs.map AV.v)).flatten))]) (n' := n) (out := .tup []) rfl (fun _ h => by cases h) (Nat.le_refl n) (.inl rfl)
  (fun C ι F T H a w ag hF g gh => zK (Cc gh rfl (a7 g (ag.l.ev.trans hx)) rfl ht.pf he.pf hz.pf hze ((ag.r.h id (by simp)).trans hH) h0 hl)) (by
   show RW P N all Q (md.add (rO x ++ [.inr id]) [.inr id]) rest ⟨ts,(id,some (fA cs off (List.replicate m (zs.map AV.v)).flatten)) :: hs,n,z0⟩
   rw [hmd.pf]; exact kk)
end
end Go.AL
namespace Go.AL
section
variable {P : Program} {N : Nat} {Q : Exit → AS → Prop} {all : Array Oper} {rest : List Oper} {ts : List (Nat × AV)} {hs : List (Nat × Option (List AV))} {n : Nat} {z0 : Lo} {md : Md}
variable {d : Nat} {ty : TypeId} {pos : String} {af : Array Edge}
theorem pV (w:World) (t el:TypeId) (hu:P.underlying t = some (.slice el)) (a:Option Addr) (m c:Nat):(binOp .eql t (.slice a m c) (.slice none 0 0)).run P w = .ok (.bool a.isNone) w:=by
 have h0 : ∀ d : Nat, (Op.equalIn (d + 1) t (.slice a m c) (.slice none 0 0)).run P w = .ok a.isNone w := fun d => by
  cases a <;> simp [Op.equalIn,bA hu]
 have h := h0 9999
 simp only [binOp]
 simp [Op.equal,Op.maxDepth,h]
theorem uG {t t' el:TypeId}{x:Operand}{m:Nat}{cs:List AV}[ht:SlT P t el] (hx:ev (lk ts) x = some (.imm m cs)) (hN:Nat.blt d N = true)
  (kk : ∀ b : Bool,(b = true → m = 0) → RW P N all Q .txt rest ⟨(d,.v (.bool b)) :: ts,hs,n,z0⟩) : RW P N all Q .txt (⟨some d,.binOp .eql t x (.const (.slice none 0 0)) t',ty,pos,af,none⟩ :: rest) ⟨ts,hs,n,z0⟩ := by
 rintro C a w hCN ⟨h0,ι,g,gh⟩
 refine wpList_plain rfl (fun K hK => ?_)
 have h1 := a7 g hx
 simp only [Rd] at h1
 obtain ⟨a',c,h2,h3⟩ := h1
 have hu := gA ht.pf
 have hb : a'.isNone = true → m = 0 := fun hn => by
  rcases h3 with h3 | ⟨b,o,_,rfl,_⟩
  ·exact h3
  ·cases hn
 have hg : (eqGuard .eql t x (.const (.slice none 0 0)) (.slice a' m c) (.slice none 0 0)).run P w = .ok () w := by simp [eqGuard]
 have hr : (execOp a.eval ⟨some d, .binOp .eql t x (.const (.slice none 0 0)) t', ty, pos, af, none⟩).run P w = .ok (.value (.bool a'.isNone)) w := by
  have e2 : a.eval (.const (.slice none 0 0)) = .slice none 0 0 := rfl
  simp only [execOp,h2,e2,Sem.run_bind,hg,Result.andThen_ok,pV w t el hu,Sem.run_pure]
 simp only [Oper.wp,hr,Oper.upon]
 refine hK _ _ (kk a'.isNone hb C _ _ hCN ⟨h0,ι,?_,gh⟩)
 show TG C ι (lk ((d,AV.v (.bool a'.isNone)) :: ts)) _ _ _
 rw [eF]
 exact g.put (by have := b0 hN;omega) (by simp [Rd])
end
theorem yP {α:Type}{f:α → List AV}{e:Nat}[h:FlT f e] {hs:List (Nat × Option (List AV))}{xs:List α}{i k n:Nat}(hH:aN hs i = some (flat f xs)) (hn:n = xs.length - k):sCells (aN hs) e (lS (.own i (0 + k * e) n e)) = some (n,flat f (xs.drop k)):=by
 show ((aN hs i).bind fun cs => if n * e ≤ (cs.drop (0 + k * e)).length then some (n,(cs.drop (0 + k * e)).take (n * e)) else none) = _
 rw [hH,Option.bind_some,Nat.zero_add]
 have h1 : (flat f xs).length = xs.length * e := aI f xs
 have h3 : (flat f xs).drop (k * e) = flat f (xs.drop k) := by
  have h4 : flat f xs = flat f (xs.take k) ++ flat f (xs.drop k) := by rw [bI,List.take_append_drop]
  have h5 : (flat f (xs.take k)).length = (xs.take k).length * e := aI f _
  by_cases hk : k ≤ xs.length
  ·rw [h4,← show (flat f (xs.take k)).length = k * e from by rw [h5,List.length_take]; congr 1;omega,List.drop_left]
  ·rw [List.drop_of_length_le (by rw [h1]; exact Nat.mul_le_mul_right _ (by omega)),List.drop_of_length_le (by omega)]; rfl
 rw [h3]
 have h2 : (flat f (xs.drop k)).length = (xs.length - k) * e := by rw [aI f (e := e),List.length_drop]
 rw [h2,hn,if_pos (Nat.le_refl _),List.take_of_length_le (by rw [h2]; exact Nat.le_refl _)]
theorem lG {T:Nat → Option AV}{x:Operand}{dd:Nat}{k:IntKind}{m:Int}{h:Nat}(hx:ev T x = some (.v (.int k m))) (e:m = (h:Int)):dX T (some x) dd = some h:=by
 simp only [dX,hx]; rw [if_pos (by omega)]; congr 1;omega
structure Tg where
 id : Int
 uq : Bool
 deriving Inhabited,DecidableEq
structure Cl where
 val : Int
 alive : Bool
 next : Int
 stk : List Tg
 deriving Inhabited,DecidableEq
structure Pt where
 cell : Int
 tag : Int
 deriving Inhabited,DecidableEq
structure Sl where
 set : Bool
 num : Int
 ptr : Pt
 deriving Inhabited,DecidableEq
def bV (t : Tg) : List AV := [iv t.id,bv t.uq]
def bP (c : Cl) : List AV := [iv c.val,bv c.alive,iv c.next,sl bV c.stk]
def cJ (s : Sl) : List AV := [bv s.set,iv s.num,iv s.ptr.cell,iv s.ptr.tag]
instance : FlT bV 2:=⟨fun _ => rfl⟩
instance : FlT bP 4:=⟨fun _ => rfl⟩
instance : FlT cJ 4:=⟨fun _ => rfl⟩
instance : FE bV (fun t => [iv t.id,bv t.uq]):=⟨fun _ => rfl⟩
instance : FE bP (fun c => [iv c.val,bv c.alive,iv c.next,sl bV c.stk]):=⟨fun _ => rfl⟩
instance : FE cJ (fun s => [bv s.set,iv s.num,iv s.ptr.cell,iv s.ptr.tag]):=⟨fun _ => rfl⟩
instance (t : Tg) : Pur (bV t):=⟨rfl⟩
instance (c : Cl) : Pur (bP c):=⟨by show (true && (true && (true && ((sl bV c.stk).pur && true)))) = true;rw [bZ]; rfl⟩
instance (s : Sl) : Pur (cJ s):=⟨rfl⟩
abbrev IU (t : Tg) : AV := .agg [iv t.id,bv t.uq]
abbrev Bx (p : Pt) : AV := .agg [iv p.cell,iv p.tag]
abbrev H8 (s : Sl) : AV := .agg [bv s.set,iv s.num,iv s.ptr.cell,iv s.ptr.tag]
structure OkC (c : Cl) : Prop where
 v : 0 ≤ c.val ∧ c.val ≤ 9
 n : 1 ≤ c.next ∧ c.next ≤ 1000
 l : 1 ≤ c.stk.length ∧ c.stk.length ≤ 200
 u : c.stk[0]!.uq = true
 i : ∀ t ∈ c.stk,0 ≤ t.id ∧ t.id < c.next
 d : (c.stk.map (·.id)).Nodup
structure OkM (m : List Cl) : Prop where
 l : m.length ≤ 200
 c : ∀ c ∈ m,OkC c
def bR (stk : List Tg) (id : Int) : Int := match stk.findIdx? (fun t => decide (t.id = id)) with | some k => k | none => -1
theorem eW (stk:List Tg) (id:Int):-1 ≤ bR stk id ∧ bR stk id < stk.length:=by
 unfold bR
 split
 ·rename_i k h
  obtain ⟨h1,_⟩ := List.findIdx?_eq_some_iff_getElem.1 h
  omega
 ·omega
theorem Ea {stk:List Tg}{id:Int}(h:0 ≤ bR stk id):stk[(bR stk id).toNat]!.id = id:=by
 unfold bR at h ⊢
 split
 ·rename_i k hk
  obtain ⟨h1,h2,_⟩ := List.findIdx?_eq_some_iff_getElem.1 hk
  rw [Int.toNat_natCast,aY _ _ h1]
  simpa using h2
 ·rename_i hk;rw [hk] at h;dsimp only at h;omega
theorem pY {stk:List Tg}{id:Int}:bR stk id < 0 ↔ ∀ t ∈ stk,t.id ≠ id:=by
 unfold bR
 split
 ·rename_i k hk
  obtain ⟨h1,h2,_⟩ := List.findIdx?_eq_some_iff_getElem.1 hk
  refine ⟨fun h => by omega,fun h => ?_⟩
  exact absurd (by simpa using h2) (h _ (List.getElem_mem h1))
 ·rename_i hk
  rw [List.findIdx?_eq_none_iff] at hk
  exact ⟨fun _ t ht => by simpa using hk t ht,fun _ => by omega⟩
def gQ (stk : List Tg) (k : Nat) (wr : Bool) : List Tg := if wr = true then stk.take (k + 1) else stk.take (k + 1) ++ (stk.drop (k + 1)).filter (fun t => !t.uq)
def a8 (m : List Cl) (x : Pt) (wr : Bool) : Int :=
 if ¬ (0 ≤ x.cell ∧ x.cell < m.length) then 4
 else if m[x.cell.toNat]!.alive = false then 1
 else if bR m[x.cell.toNat]!.stk x.tag < 0 then 2
 else if wr = true ∧ m[x.cell.toNat]!.stk[(bR m[x.cell.toNat]!.stk x.tag).toNat]!.uq = false then 3
 else 0
def oU (c : Cl) (x : Pt) (wr : Bool) : Cl := { c with stk := gQ c.stk (bR c.stk x.tag).toNat wr }
def n3 (m : List Cl) (x : Pt) (wr : Bool) : List Cl := if a8 m x wr = 0 then m.set x.cell.toNat (oU m[x.cell.toNat]! x wr) else m
def oY (m : List Cl) (x : Pt) : Int := if a8 m x false = 0 then m[x.cell.toNat]!.val else 0
def Bv (m : List Cl) (x : Pt) (v : Int) : Int := if 0 ≤ v ∧ v ≤ 9 then a8 m x true else 4
def D1 (m : List Cl) (x : Pt) (v : Int) : List Cl := if Bv m x v = 0 then m.set x.cell.toNat { oU m[x.cell.toNat]! x true with val := v } else m
def l4 (m : List Cl) (x : Pt) : List Cl := if a8 m x true = 0 then m.set x.cell.toNat { oU m[x.cell.toNat]! x true with alive := false } else m
def AY (c : Cl) : Prop := c.stk.length = 200 ∨ c.next = 1000
instance (c : Cl) : Decidable (AY c) := by unfold AY;infer_instance
def u6 (m : List Cl) (x : Pt) (u : Bool) : Int := if a8 m x u = 0 then (if AY (oU m[x.cell.toNat]! x u) then 4 else 0) else a8 m x u
def psh (c : Cl) (u : Bool) : Cl := { c with stk := c.stk ++ [⟨c.next,u⟩],next := c.next + 1 }
def AT (m : List Cl) (x : Pt) (u : Bool) : List Cl := if u6 m x u = 0 then m.set x.cell.toNat (psh (oU m[x.cell.toNat]! x u) u) else m
def DY (m : List Cl) (x : Pt) (u : Bool) : Pt := if u6 m x u = 0 then ⟨x.cell,m[x.cell.toNat]!.next⟩ else ⟨0,0⟩
def Ac (v : Int) : Cl := ⟨v,true,1,[⟨0,true⟩]⟩
theorem tchS_sub {stk:List Tg}{k:Nat}{wr:Bool}:(gQ stk k wr).Sublist stk:=by
 unfold gQ
 split
 ·exact List.take_sublist _ _
 ·have h := List.Sublist.append (List.Sublist.refl (stk.take (k + 1))) (List.filter_sublist (l := stk.drop (k + 1)) (p := fun t => !t.uq))
  rwa [List.take_append_drop] at h
theorem AP {stk:List Tg}{k:Nat}{wr:Bool}(h:0 < stk.length):(gQ stk k wr)[0]! = stk[0]! ∧ 0 < (gQ stk k wr).length:=by
 cases stk with
 | nil => simp at h
 | cons a l =>
  unfold gQ
  split <;> simp
theorem OkC.tch {c:Cl}(h:OkC c) (x:Pt) (wr:Bool):OkC (oU c x wr):=by
 have hs := tchS_sub (stk := c.stk) (k := (bR c.stk x.tag).toNat) (wr := wr)
 have hh := AP (k := (bR c.stk x.tag).toNat) (wr := wr) (stk := c.stk) (by have := h.l;omega)
 refine ⟨h.v,h.n,⟨hh.2,Nat.le_trans hs.length_le h.l.2⟩,?_,fun t ht => h.i t (hs.subset ht),(hs.map _).nodup h.d⟩
 show (gQ c.stk (bR c.stk x.tag).toNat wr)[0]!.uq = true
 rw [hh.1]; exact h.u
theorem OkC.psh {c:Cl}(h:OkC c) (u:Bool) (hf:¬ AY c):OkC (psh c u):=by
 have hl := h.l
 have hn := h.n
 unfold AY at hf
 refine ⟨h.v,by show 1 ≤ c.next + 1 ∧ c.next + 1 ≤ 1000;omega,by show 1 ≤ (c.stk ++ [_]).length ∧ (c.stk ++ [_]).length ≤ 200;rw [List.length_append,List.length_singleton]; omega,?_,fun t ht => ?_,?_⟩
 ·show (c.stk ++ [_])[0]!.uq = true
  have h1 := h.u
  rw [aY _ _ (by omega)] at h1
  rw [aY _ _ (by rw [List.length_append]; omega),List.getElem_append_left (by omega)]; exact h1
 ·rcases List.mem_append.1 ht with ht | ht
  ·have := h.i t ht;show 0 ≤ t.id ∧ t.id < c.next + 1;omega
  ·rw [List.mem_singleton] at ht;subst ht;show 0 ≤ c.next ∧ c.next < c.next + 1;omega
 ·show ((c.stk ++ [_]).map _).Nodup
  rw [List.map_append,List.nodup_append]
  refine ⟨h.d,by simp,fun a ha b hb => ?_⟩
  simp only [List.map_cons,List.map_nil,List.mem_singleton] at hb
  obtain ⟨t,ht,rfl⟩ := List.mem_map.1 ha
  have := h.i t ht
  omega
theorem OkC.nw {v:Int}(h:0 ≤ v ∧ v ≤ 9):OkC (Ac v) := ⟨h,⟨by show (1:Int) ≤ 1;decide,by show (1:Int) ≤ 1000;decide⟩,⟨by show 1 ≤ 1;decide,by show 1 ≤ 200;decide⟩,rfl,by simp [Ac],by simp [Ac]⟩
theorem OkM.set {m:List Cl}(h:OkM m){k:Nat}{c:Cl}(hc:OkC c):OkM (m.set k c) :=
 ⟨by rw [List.length_set]; exact h.l,fun x hx => (List.mem_or_eq_of_mem_set hx).elim (h.c x) (fun e => e ▸ hc)⟩
theorem OkM.at {m:List Cl}(h:OkM m){k:Nat}(hk:k < m.length):OkC m[k]! := h.c _ (aV _ _ hk)
theorem e5 {m:List Cl}{x:Pt}{wr:Bool}(h:a8 m x wr ≠ 4):0 ≤ x.cell ∧ x.cell < m.length ∧ x.cell.toNat < m.length:=by
 unfold a8 at h
 split at h
 ·exact absurd rfl h
 ·omega
theorem sJ {m:List Cl}{x:Pt}{wr:Bool}(h:a8 m x wr = 0):0 ≤ x.cell ∧ x.cell < m.length ∧ x.cell.toNat < m.length := e5 (by rw [h]; decide)
theorem OkM.tch {m:List Cl}(h:OkM m) (x:Pt) (wr:Bool):OkM (n3 m x wr):=by
 unfold n3;split
 ·rename_i hk;exact h.set ((h.at (sJ hk).2.2).tch x wr)
 ·exact h
theorem OkM.wr {m:List Cl}(h:OkM m) (x:Pt) (v:Int):OkM (D1 m x v):=by
 unfold D1
 by_cases hk : Bv m x v = 0
 ·rw [if_pos hk]
  unfold Bv at hk
  by_cases hv : 0 ≤ v ∧ v ≤ 9
  ·rw [if_pos hv] at hk
   have h1 := (h.at (sJ hk).2.2).tch x true
   exact h.set ⟨hv,h1.n,h1.l,h1.u,h1.i,h1.d⟩
  ·rw [if_neg hv] at hk;cases hk
 ·rw [if_neg hk]; exact h
theorem OkM.fr {m:List Cl}(h:OkM m) (x:Pt):OkM (l4 m x):=by
 unfold l4;split
 ·rename_i hk
  have h1 := (h.at (sJ hk).2.2).tch x true
  exact h.set ⟨h1.v,h1.n,h1.l,h1.u,h1.i,h1.d⟩
 ·exact h
theorem OkM.ln {m:List Cl}(h:OkM m) (x:Pt) (u:Bool):OkM (AT m x u):=by
 unfold AT
 by_cases hk : u6 m x u = 0
 ·rw [if_pos hk]
  unfold u6 at hk
  by_cases h0 : a8 m x u = 0
  ·rw [if_pos h0] at hk
   by_cases hf : AY (oU m[x.cell.toNat]! x u)
   ·rw [if_pos hf] at hk;cases hk
   ·exact h.set (((h.at (sJ h0).2.2).tch x u).psh u hf)
  ·rw [if_neg h0] at hk;exact absurd hk h0
 ·rw [if_neg hk]; exact h
theorem OkM.nw {m:List Cl}(h:OkM m){v:Int}(hv:0 ≤ v ∧ v ≤ 9) (hl:m.length < 200):OkM (m ++ [Ac v]) :=
 ⟨by rw [List.length_append,List.length_singleton]; omega,fun c hc => (List.mem_append.1 hc).elim (h.c c) (fun h => by rw [List.mem_singleton.1 h]; exact OkC.nw hv)⟩
def fQ (pts : List Pnt) (a : Nat) (cs : List Int) : Nat × List Int :=
 if pts[a]!.next.length = 2 then
  match cs with
  | [] => ((pts[a]!.next[1]!).toNat,[])
  | c :: cs => ((pts[a]!.next[(c % 2).toNat]!).toNat,cs)
 else ((pts[a]!.next[0]!).toNat,cs)
def dS (pts : List Pnt) : Nat → Nat → List Int → List Nat × Bool
 | 0,a,_ => if pts[a]!.op = 11 then ([a],true) else ([],false)
 | n + 1,a,cs => if pts[a]!.op = 11 then ([a],true) else (a :: (dS pts n (fQ pts a cs).1 (fQ pts a cs).2).1,(dS pts n (fQ pts a cs).1 (fQ pts a cs).2).2)
structure Mc where
 slots : List Sl
 cells : List Cl
 read : List Int
 deriving Inhabited
def qH : Sl := ⟨false,0,⟨0,0⟩⟩
def eX (k : Int) : Int := if k = 1 then 3 else 4
def kC (k : Int) : Int := if k = 0 then -1 else eX k
def bO (ts : List Int) (s : Mc) (v : Nat) (x : Sl) : Mc × Int :=
 if ts[v]! = 2 ∧ s.slots[v]!.set = true then (⟨s.slots.set v x,l4 s.cells s.slots[v]!.ptr,s.read⟩,kC (a8 s.cells s.slots[v]!.ptr true))
 else (⟨s.slots.set v x,s.cells,s.read⟩,-1)
def bL (ts : List Int) (s : Mc) (x : Pnt) : Bool := (List.range ts.length).any fun v => decide (bB ts x v ≠ 0) && !s.slots[v]!.set
def b9 (ts : List Int) : Nat → Nat → Mc → Mc × Int
 | 0,_,s => (s,0)
 | n + 1, v, s => if ts[v]! = 2 ∧ s.slots[v]!.set = true then
   (if a8 s.cells s.slots[v]!.ptr true = 0 then b9 ts n (v + 1) ⟨s.slots.set v qH,l4 s.cells s.slots[v]!.ptr,s.read⟩ else (⟨s.slots,l4 s.cells s.slots[v]!.ptr,s.read⟩,eX (a8 s.cells s.slots[v]!.ptr true)))
  else b9 ts n (v + 1) s
def dD (ts : List Int) (s : Mc) (x : Pnt) : Mc × Int :=
 if x.op = 1 then bO ts s x.x.toNat ⟨true,x.n,⟨0,0⟩⟩
 else if x.op = 2 then (if s.cells.length = 200 then (s,1) else bO ts ⟨s.slots,s.cells ++ [Ac x.n],s.read⟩ x.x.toNat ⟨true,0,⟨s.cells.length,0⟩⟩)
 else if x.op = 3 then bO ts (if D2 ts[x.y.toNat]! = true then ⟨s.slots.set x.y.toNat qH,s.cells,s.read⟩ else s) x.x.toNat s.slots[x.y.toNat]!
 else if x.op = 4 ∨ x.op = 5 then
  (if u6 s.cells s.slots[x.y.toNat]!.ptr (decide (x.op = 5)) = 0 then bO ts ⟨s.slots, AT s.cells s.slots[x.y.toNat]!.ptr (decide (x.op = 5)), s.read⟩ x.x.toNat ⟨true, 0, DY s.cells s.slots[x.y.toNat]!.ptr (decide (x.op = 5))⟩
   else (s,eX (u6 s.cells s.slots[x.y.toNat]!.ptr (decide (x.op = 5)))))
 else if x.op = 6 then
  (if a8 s.cells s.slots[x.y.toNat]!.ptr false = 0 then bO ts ⟨s.slots, n3 s.cells s.slots[x.y.toNat]!.ptr false, s.read ++ [oY s.cells s.slots[x.y.toNat]!.ptr]⟩ x.x.toNat ⟨true, oY s.cells s.slots[x.y.toNat]!.ptr, ⟨0, 0⟩⟩
   else (s,eX (a8 s.cells s.slots[x.y.toNat]!.ptr false)))
 else if x.op = 7 then (⟨s.slots,D1 s.cells s.slots[x.x.toNat]!.ptr s.slots[x.y.toNat]!.num,s.read⟩,kC (Bv s.cells s.slots[x.x.toNat]!.ptr s.slots[x.y.toNat]!.num))
 else if x.op = 8 then (⟨s.slots.set x.x.toNat qH,l4 s.cells s.slots[x.x.toNat]!.ptr,s.read⟩,kC (a8 s.cells s.slots[x.x.toNat]!.ptr true))
 else if x.op = 11 then b9 ts ts.length 0 s
 else (s,-1)
def fO (ts : List Int) (pts : List Pnt) : List Nat → Mc → Nat → Mc × Int × Nat
 | [],s,last => (s,1,last)
 | a :: l, s, _ => if bL ts s pts[a]! = true then (s, 2, a)
  else if (dD ts s pts[a]!).2 = -1 then fO ts pts l (dD ts s pts[a]!).1 a
  else ((dD ts s pts[a]!).1,(dD ts s pts[a]!).2,a)
def mc0 (nt : Nat) : Mc := ⟨List.replicate nt qH,[],[]⟩
def iF (ts : List Int) (pts : List Pnt) (cs : List Int) (most : Nat) : Mc × Int × Nat := fO ts pts (dS pts most 0 cs).1 (mc0 ts.length) 0
structure OkS (nt : Nat) (s : Mc) : Prop where
 m : OkM s.cells
 l : s.slots.length = nt
theorem OkS.put {ts:List Int}{nt:Nat}{s:Mc}(h:OkS nt s) (v:Nat) (x:Sl):OkS nt (bO ts s v x).1:=by
 unfold bO;split
 ·exact ⟨h.m.fr _,by show (s.slots.set v x).length = nt;rw [List.length_set]; exact h.l⟩
 ·exact ⟨h.m,by show (s.slots.set v x).length = nt;rw [List.length_set]; exact h.l⟩
theorem OkS.fin {ts:List Int}{nt:Nat}:∀ n v (s:Mc),OkS nt s → OkS nt (b9 ts n v s).1
 | 0,_,_,h => h
 | n + 1, v, s, h => by
  unfold b9;split
  ·split
   ·exact OkS.fin n _ _ ⟨h.m.fr _,by show (s.slots.set v qH).length = nt;rw [List.length_set]; exact h.l⟩
   ·exact ⟨h.m.fr _,h.l⟩
  ·exact OkS.fin n _ _ h
structure PtN (x : Pnt) : Prop where
 n : x.op = 2 → 0 ≤ x.n ∧ x.n ≤ 9
theorem OkS.do {ts:List Int}{nt:Nat}{s:Mc}(h:OkS nt s){x:Pnt}(hx:PtN x):OkS nt (dD ts s x).1:=by
 have hl : ∀ (v : Nat) (y : Sl),(s.slots.set v y).length = nt := fun v y => by rw [List.length_set]; exact h.l
 unfold dD
 split
 ·exact h.put _ _
 split
 ·rename_i h2
  split
  ·exact h
  ·rename_i h3
   refine OkS.put ?_ _ _
   exact ⟨h.m.nw (hx.n h2) (by have := h.m.l;omega),h.l⟩
 split
 ·split
  ·refine OkS.put ?_ _ _
   exact ⟨h.m,hl _ _⟩
  ·exact h.put _ _
 split
 ·split
  ·refine OkS.put ?_ _ _
   exact ⟨h.m.ln _ _,h.l⟩
  ·exact h
 split
 ·split
  ·refine OkS.put ?_ _ _
   exact ⟨h.m.tch _ _,h.l⟩
  ·exact h
 split
 ·exact ⟨h.m.wr _ _,h.l⟩
 split
 ·exact ⟨h.m.fr _,hl _ _⟩
 split
 ·exact OkS.fin _ _ _ h
 ·exact h
theorem OkS.mc0 (nt:Nat):OkS nt (mc0 nt) := ⟨⟨by simp [Go.AL.mc0],by simp [Go.AL.mc0]⟩,by simp [Go.AL.mc0]⟩
theorem OkS.run {ts:List Int}{pts:List Pnt}{nt:Nat}(hp:∀ a:Nat,PtN pts[a]!):∀ (l:List Nat) (s:Mc) (last:Nat),OkS nt s → OkS nt (fO ts pts l s last).1
 | [],_,_,h => h
 | a :: l, s, _, h => by
  unfold fO;split
  ·exact h
  ·split
   ·exact OkS.run hp l _ _ (h.do (hp a))
   ·exact h.do (hp a)
theorem Cr (k:Int):kC k = -1 ∨ kC k = 3 ∨ kC k = 4 := by unfold kC eX;split;exact .inl rfl;split;exact .inr (.inl rfl);exact .inr (.inr rfl)
theorem mS (k:Int):eX k = 3 ∨ eX k = 4 := by unfold eX;split;exact .inl rfl;exact .inr rfl
theorem EJ (ts:List Int) (s:Mc) (v:Nat) (x:Sl):(bO ts s v x).2 = -1 ∨ (bO ts s v x).2 = 3 ∨ (bO ts s v x).2 = 4:=by
 unfold bO;split
 ·exact Cr _
 ·exact .inl rfl
theorem GU {ts:List Int}{s:Mc}{x:Pnt}(h:x.op ≠ 11):(dD ts s x).2 = -1 ∨ (dD ts s x).2 = 1 ∨ (dD ts s x).2 = 3 ∨ (dD ts s x).2 = 4:=by
 have p := fun s v y => EJ ts s v y
 have p' : ∀ s v y, (bO ts s v y).2 = -1 ∨ (bO ts s v y).2 = 1 ∨ (bO ts s v y).2 = 3 ∨ (bO ts s v y).2 = 4 := fun s v y => by
  rcases p s v y with h|h|h
  ·exact .inl h
  ·exact .inr (.inr (.inl h))
  ·exact .inr (.inr (.inr h))
 have g : ∀ k, kC k = -1 ∨ kC k = 1 ∨ kC k = 3 ∨ kC k = 4 := fun k => by
  rcases Cr k with h|h|h
  ·exact .inl h
  ·exact .inr (.inr (.inl h))
  ·exact .inr (.inr (.inr h))
 have e : ∀ k,eX k = -1 ∨ eX k = 1 ∨ eX k = 3 ∨ eX k = 4 := fun k => .inr (.inr (mS k))
 unfold dD
 rw [if_neg h]
 split
 ·exact p' _ _ _
 split
 ·split
  ·exact .inr (.inl rfl)
  ·exact p' _ _ _
 split
 ·exact p' _ _ _
 split
 ·split
  ·exact p' _ _ _
  ·exact e _
 split
 ·split
  ·exact p' _ _ _
  ·exact e _
 split
 ·exact g _
 split
 ·exact g _
 exact .inl rfl
theorem qT (ts:List Int):∀ n v (s:Mc),(b9 ts n v s).2 = 0 ∨ (b9 ts n v s).2 = 3 ∨ (b9 ts n v s).2 = 4
 | 0,_,_ => .inl rfl
 | n + 1, v, s => by
  unfold b9;split
  ·split
   ·exact qT ts n _ _
   ·exact .inr (mS _)
  ·exact qT ts n _ _
theorem zT {ts:List Int}{s:Mc}{x:Pnt}(h:x.op = 11):dD ts s x = b9 ts ts.length 0 s:=by
 unfold dD;simp [h]
structure PtA (ts : List Int) (x : Pnt) : Prop where
 n : x.op = 1 ∨ x.op = 2 → 0 ≤ x.n ∧ x.n ≤ 9
 t1 : x.op = 1 → ts[x.x.toNat]! = 1
 t2 : x.op = 2 ∨ x.op = 8 → ts[x.x.toNat]! = 2
 t3 : x.op = 3 → ts[x.x.toNat]! = ts[x.y.toNat]! ∧ x.x ≠ x.y
 t4 : x.op = 4 → ts[x.x.toNat]! = 3 ∧ x.x ≠ x.y ∧ 2 ≤ ts[x.y.toNat]!
 t5 : x.op = 5 → ts[x.x.toNat]! = 4 ∧ x.x ≠ x.y ∧ (ts[x.y.toNat]! = 2 ∨ ts[x.y.toNat]! = 4)
 t6 : x.op = 6 → ts[x.x.toNat]! = 1 ∧ 2 ≤ ts[x.y.toNat]!
 t7 : x.op = 7 → (ts[x.x.toNat]! = 2 ∨ ts[x.x.toNat]! = 4) ∧ ts[x.y.toNat]! = 1
theorem PtA.no {ts:List Int}{x:Pnt}(h:9 ≤ x.op):PtA ts x := ⟨fun e => by omega,fun e => by omega,fun e => by omega,fun e => by omega,fun e => by omega,fun e => by omega,fun e => by omega,fun e => by omega⟩
theorem wI {ts:List Int}{s:Stmt}(h:cD ts s = true):s.op ≤ 8:=by
 unfold cD at h
 dsimp only at h
 apply Classical.byContradiction
 intro e
 rw [if_neg (by omega),if_neg (by omega)] at h
 split at h
 ·cases h
 ·rw [if_neg (by omega),if_neg (by omega),if_neg (by omega),if_neg (by omega),if_neg (by omega),if_neg (by omega)] at h;cases h
theorem Cd {ts:List Int}(s:Stmt) (h:cD ts s = true):PtA ts ⟨s.op,s.x,s.y,s.n,[]⟩:=by
 have g : ∀ v,0 < dC ts v → dC ts v = ts[v.toNat]! := fun v => w4
 have gx := g s.x
 have gy := g s.y
 unfold cD at h
 dsimp only at h
 constructor <;> dsimp only <;> intro e
 case n => rcases e with e|e <;> simp [e] at h <;> omega
 case t1 => simp [e] at h;rw [← gx (by omega)]; omega
 case t2 => rcases e with e|e <;> simp [e] at h <;> (rw [← gx (by omega)]; omega)
 case t3 => simp [e] at h;rw [← gx (by omega),← gy (by omega)]; exact ⟨h.2.1,h.2.2.2⟩
 case t4 => simp [e] at h;rw [← gx (by omega),← gy (by omega)]; exact ⟨h.2.1,h.2.2.2,h.2.2.1⟩
 case t5 => simp [e] at h;rw [← gx (by omega),← gy (by omega)]; exact ⟨h.2.1,h.2.2.2,h.2.2.1⟩
 case t6 => simp [e] at h;rw [← gx (by omega),← gy (by omega)]; exact ⟨h.2.1,h.2.2⟩
 case t7 => simp [e] at h;rw [← gx (by omega),← gy (by omega)]; exact ⟨h.2.1,h.2.2⟩
mutual
theorem HO {ts:List Int}:∀ (s:Stmt) (d b:Nat),oB ts d s = true → ∀ x ∈ yB b s,PtA ts x ∧ x.op ≠ 11 ∧ 0 < x.next.length
 | .mk op x y n th el, d, b, h => by
  simp only [oB] at h
  split at h
  ·rename_i hop
   simp only [Bool.and_eq_true] at h
   have hs := Cd _ h.2
   have ho := wI h.2
   simp only [Stmt.op,Stmt.x,Stmt.y,Stmt.n] at hs ho
   simp only [yB,hop.1,hop.2,if_false,List.mem_singleton]
   rintro z rfl
   exact ⟨⟨hs.n,hs.t1,hs.t2,hs.t3,hs.t4,hs.t5,hs.t6,hs.t7⟩,by dsimp only;omega,by simp⟩
  ·rename_i hop
   cases d with
   | zero => cases h
   | succ d =>
    simp only [Bool.and_eq_true,decide_eq_true_eq] at h
    obtain ⟨⟨⟨_,_⟩,h1⟩,h2⟩ := h
    by_cases h9 : op = 9
    ·subst h9
     simp only [yB,if_true,List.mem_append,List.mem_singleton]
     rintro z (((rfl|hz)|rfl)|hz)
     ·exact ⟨PtA.no (by simp),by simp,by simp⟩
     ·exact m6 th d (b + 1) h1 z hz
     ·exact ⟨PtA.no (by simp),by simp,by simp⟩
     ·exact m6 el d (b + 2 + cH th) h2 z hz
    ·have h10 : op = 10 := by omega
     subst h10
     simp only [yB,if_true,show ((10 : Int) = 9) = False by simp,if_false,List.mem_append,List.mem_singleton]
     rintro z ((rfl|hz)|rfl)
     ·exact ⟨PtA.no (by simp),by simp,by simp⟩
     ·exact m6 th d (b + 1) h1 z hz
     ·exact ⟨PtA.no (by simp),by simp,by simp⟩
theorem m6 {ts:List Int}:∀ (l:List Stmt) (d b:Nat),okL ts d l = true → ∀ x ∈ dZ b l,PtA ts x ∧ x.op ≠ 11 ∧ 0 < x.next.length
 | [],d,b,h => by simp [dZ]
 | s :: l, d, b, h => by
  simp only [okL,Bool.and_eq_true] at h
  simp only [dZ,List.mem_append]
  rintro x (hx|hx)
  ·exact HO s d b h.1 x hx
  ·exact m6 l d (b + qC s) h.2 x hx
end
structure WA (ts : List Int) (pts : List Pnt) : Prop where
 a : ∀ i,i < pts.length → PtA ts pts[i]!
 e : ∀ i,i < pts.length → (pts[i]!.op = 11 ↔ i + 1 = pts.length)
 n : ∀ i,i < pts.length → pts[i]!.op ≠ 11 → 0 < pts[i]!.next.length
theorem WA.of_valid {p:Prg}(h:bK p = true):WA p.types (aR p):=by
 unfold bK at h
 simp only [Bool.and_eq_true,decide_eq_true_eq] at h
 obtain ⟨⟨_,hl⟩,_⟩ := h
 have hlen := kG p
 have hpl := a9 p.body 0
 have lo : ∀ i, i + 1 < (aR p).length → (aR p)[i]! ∈ dZ 0 p.body := fun i hi => by
  have h1 : i < (dZ 0 p.body).length := by omega
  unfold aR
  rw [aY _ _ (by rw [List.length_append]; omega),List.getElem_append_left h1]
  exact List.getElem_mem h1
 have hi : ∀ i, i + 1 = (aR p).length → (aR p)[i]! = ⟨11, 0, 0, 0, []⟩ := fun i hi => by
  have h1 : i = (dZ 0 p.body).length := by omega
  unfold aR
  rw [aY _ _ (by rw [List.length_append,List.length_singleton]; omega)]
  simp [h1]
 refine ⟨fun i h => ?_,fun i h => ⟨fun e => ?_,fun e => by rw [hi i e]⟩,fun i h ne => ?_⟩
 ·by_cases q : i + 1 < (aR p).length
  ·exact (m6 p.body 4 0 hl _ (lo i q)).1
  ·rw [hi i (by omega)]; exact PtA.no (by simp)
 ·by_cases q : i + 1 < (aR p).length
  ·exact absurd e (m6 p.body 4 0 hl _ (lo i q)).2.1
  ·omega
 ·by_cases q : i + 1 < (aR p).length
  ·exact (m6 p.body 4 0 hl _ (lo i q)).2.2
  ·exact absurd (by rw [hi i (by omega)]) ne
theorem fY {xs:List Sl}{X:Int}(y:Sl){v:Nat}(hX:0 ≤ X ∧ X < xs.length) (hv:v < xs.length):(xs.set X.toNat y)[v]! = if X = (v:Int) then y else xs[v]!:=by
 rw [c7]
 by_cases h : X = (v : Int)
 ·rw [if_pos h,if_pos ⟨by omega,hv⟩]
 ·rw [if_neg h,if_neg (by omega)]
theorem fB (ts:List Int) (s:Mc) (v:Nat) (x:Sl):(bO ts s v x).1.slots = s.slots.set v x:=by
 unfold bO;split <;> rfl
theorem EV {ts:List Int}{s:Mc}{x:Pnt}(h:bL ts s x = false){v:Nat}(hv:v < ts.length) (hu:bB ts x v ≠ 0):s.slots[v]!.set = true:=by
 unfold bL at h
 rw [List.any_eq_false] at h
 have h1 := h v (List.mem_range.2 hv)
 rw [decide_eq_true hu,Bool.true_and] at h1
 simpa using h1
theorem CG {t:Int}:D2 t = true ↔ t = 2 ∨ t = 4 := by unfold D2;simp
theorem Ca {ts:List Int}{s:Mc}{x:Pnt}(hl:s.slots.length = ts.length) (hu:bL ts s x = false) (A:PtA ts x) (hop:1 ≤ x.op ∧ x.op ≠ 11) (hx:x.op ≤ 8 → 0 ≤ x.x ∧ x.x < ts.length) (hy:3 ≤ x.op → x.op ≤ 7 → 0 ≤ x.y ∧ x.y < ts.length) (hgo:(dD ts s x).2 = -1) :
  ∃ y : Sl,y.set = true ∧ ∀ v,v < ts.length → (dD ts s x).1.slots[v]! = if bC x = (v : Int) then y else if bB ts x v = 2 then qH else s.slots[v]! := by
 have hk : ∀ k,eX k ≠ -1 := fun k => by rcases mS k with h|h <;> rw [h] <;> decide
 unfold dD at hgo ⊢
 by_cases h1 : x.op = 1
 ·rw [if_pos h1]
  have hxb := hx (by omega)
  refine ⟨⟨true,x.n,⟨0,0⟩⟩,rfl,fun v hv => ?_⟩
  rw [fB,fY _ (by omega) (by omega)]
  have e1 : bC x = x.x := by unfold bC;rw [if_pos (by omega)]
  have e2 : bB ts x v = 0 := by unfold bB;rw [if_neg (by omega),if_neg (by omega),if_neg (by omega),if_neg (by omega)]
  rw [e1,e2]; simp
 rw [if_neg h1] at hgo ⊢
 by_cases h2 : x.op = 2
 ·rw [if_pos h2] at hgo ⊢
  have hxb := hx (by omega)
  by_cases h200 : s.cells.length = 200
  ·rw [if_pos h200] at hgo;cases hgo
  ·rw [if_neg h200]
   refine ⟨⟨true,0,⟨s.cells.length,0⟩⟩,rfl,fun v hv => ?_⟩
   rw [fB]
   dsimp only
   rw [fY _ (by omega) (by omega)]
   have e1 : bC x = x.x := by unfold bC;rw [if_pos (by omega)]
   have e2 : bB ts x v = 0 := by unfold bB;rw [if_neg (by omega),if_neg (by omega),if_neg (by omega),if_neg (by omega)]
   rw [e1,e2]; simp
 rw [if_neg h2] at hgo ⊢
 by_cases h3 : x.op = 3
 ·rw [if_pos h3]
  have hxb := hx (by omega)
  have hyb := hy (by omega) (by omega)
  have hne := (A.t3 h3).2
  have e1 : bC x = x.x := by unfold bC;rw [if_pos (by omega)]
  have hyn : ((x.y.toNat : Nat) : Int) = x.y := by omega
  have hys : s.slots[x.y.toNat]!.set = true := EV hu (v := x.y.toNat) (by omega) (by
   unfold bB;rw [if_pos h3,if_pos hyn]; split <;> decide)
  refine ⟨s.slots[x.y.toNat]!,hys,fun v hv => ?_⟩
  rw [fB]
  have e2 : bB ts x v = if (v : Int) = x.y then (if ts[x.y.toNat]! = 2 ∨ ts[x.y.toNat]! = 4 then 2 else 1) else 0 := by
   unfold bB;rw [if_pos h3]
   by_cases q : (v : Int) = x.y
   ·rw [if_pos q,if_pos q,q]
   ·rw [if_neg q,if_neg q]
  rw [e1,e2]
  by_cases ht : D2 ts[x.y.toNat]! = true
  ·rw [if_pos ht]
   dsimp only
   rw [fY _ (by rw [List.length_set]; omega) (by rw [List.length_set]; omega),fY _ (by omega) (by omega),if_pos (CG.1 ht)]
   by_cases q : x.x = (v : Int)
   ·rw [if_pos q,if_pos q]
   ·rw [if_neg q, if_neg q]
    by_cases q2 : x.y = (v : Int)
    ·rw [if_pos q2,if_pos q2.symm,if_pos rfl]
    ·have q3 : ¬ ((v : Int) = x.y) := fun h => q2 h.symm
     rw [if_neg q2,if_neg q3,if_neg (by decide : ¬ (0 : Int) = 2)]
  ·rw [if_neg ht, fY _ (by omega) (by omega), if_neg (fun h => ht (CG.2 h))]
   by_cases q : x.x = (v : Int)
   ·rw [if_pos q,if_pos q]
   ·rw [if_neg q, if_neg q]
    by_cases q2 : (v : Int) = x.y
    ·rw [if_pos q2,if_neg (by decide)]
    ·rw [if_neg q2,if_neg (by decide)]
 rw [if_neg h3] at hgo ⊢
 by_cases h4 : x.op = 4 ∨ x.op = 5
 ·rw [if_pos h4] at hgo ⊢
  have hxb := hx (by omega)
  split at hgo
  ·rename_i hz
   rw [if_pos hz]
   refine ⟨⟨true,0,DY s.cells s.slots[x.y.toNat]!.ptr (decide (x.op = 5))⟩,rfl,fun v hv => ?_⟩
   rw [fB]
   dsimp only
   rw [fY _ (by omega) (by omega)]
   have e1 : bC x = x.x := by unfold bC;rw [if_pos (by omega)]
   have e2 : bB ts x v ≠ 2 := by unfold bB;rw [if_neg (by omega),if_pos (by omega)]; split <;> decide
   rw [e1,if_neg e2]
  ·exact absurd hgo (hk _)
 rw [if_neg h4] at hgo ⊢
 by_cases h6 : x.op = 6
 ·rw [if_pos h6] at hgo ⊢
  have hxb := hx (by omega)
  split at hgo
  ·rename_i hz
   rw [if_pos hz]
   refine ⟨⟨true,oY s.cells s.slots[x.y.toNat]!.ptr,⟨0,0⟩⟩,rfl,fun v hv => ?_⟩
   rw [fB]
   dsimp only
   rw [fY _ (by omega) (by omega)]
   have e1 : bC x = x.x := by unfold bC;rw [if_pos (by omega)]
   have e2 : bB ts x v ≠ 2 := by unfold bB;rw [if_neg (by omega),if_pos (by omega)]; split <;> decide
   rw [e1,if_neg e2]
  ·exact absurd hgo (hk _)
 rw [if_neg h6] at hgo ⊢
 have e1 : bC x = -1 := by unfold bC;rw [if_neg (by omega)]
 have e3 : ∀ v : Nat,bC x ≠ (v : Int) := fun v => by rw [e1]; omega
 by_cases h7 : x.op = 7
 ·rw [if_pos h7]
  refine ⟨⟨true,0,⟨0,0⟩⟩,rfl,fun v hv => ?_⟩
  have e2 : bB ts x v ≠ 2 := by unfold bB;rw [if_neg (by omega),if_neg (by omega),if_pos h7]; split;decide;split <;> decide
  rw [if_neg (e3 v),if_neg e2]
 rw [if_neg h7]
 by_cases h8 : x.op = 8
 ·rw [if_pos h8]
  have hxb := hx (by omega)
  refine ⟨⟨true,0,⟨0,0⟩⟩,rfl,fun v hv => ?_⟩
  dsimp only
  rw [if_neg (e3 v),fY _ (by omega) (by omega)]
  have e2 : bB ts x v = if (v : Int) = x.x then 2 else 0 := by unfold bB;rw [if_neg (by omega),if_neg (by omega),if_neg (by omega),if_pos h8]
  rw [e2]
  by_cases q : x.x = (v : Int)
  ·rw [if_pos q,if_pos q.symm,if_pos rfl]
  ·have q3 : ¬ ((v : Int) = x.x) := fun h => q h.symm
   rw [if_neg q,if_neg q3,if_neg (by decide : ¬ (0 : Int) = 2)]
 ·rw [if_neg h8, if_neg hop.2]
  refine ⟨⟨true,0,⟨0,0⟩⟩,rfl,fun v hv => ?_⟩
  have e2 : bB ts x v ≠ 2 := by unfold bB;rw [if_neg (by omega),if_neg (by omega),if_neg (by omega),if_neg (by omega)]; decide
  rw [if_neg (e3 v),if_neg e2]
section
variable {ts : List Int} {pts : List Pnt}
theorem WG.doS (w:WG ts pts) (A:WA ts pts){a:Nat}(ha:a < pts.length){s:Mc}(hl:s.slots.length = ts.length) (hu:bL ts s pts[a]! = false) (h11:pts[a]!.op ≠ 11) (hgo:(dD ts s pts[a]!).2 = -1) :
  ∃ y : Sl,y.set = true ∧ ∀ v,v < ts.length → (dD ts s pts[a]!).1.slots[v]! = if bC pts[a]! = (v : Int) then y else if bB ts pts[a]! v = 2 then qH else s.slots[v]! :=
 Ca hl hu (A.a a ha) ⟨(w.op a ha).1,h11⟩ (fun h => ⟨(w.x a ha).1,(w.x a ha).2 h⟩) (fun h1 h2 => ⟨(w.y a ha).1,(w.y a ha).2 h1 h2⟩) hgo
theorem tS (w:WG ts pts) (A:WA ts pts){a:Nat}(ha:a < pts.length) (h11:pts[a]!.op ≠ 11) (cs:List Int):iG pts a (fQ pts a cs).1:=by
 have key : ∀ j : Nat, j < pts[a]!.next.length → iG pts a (pts[a]!.next[j]!).toNat := fun j hj => by
  have hm := aV pts[a]!.next j hj
  refine ⟨ha,?_⟩
  rw [show (((pts[a]!.next[j]!).toNat : Nat) : Int) = pts[a]!.next[j]! by have := (w.nx a ha _ hm).1;omega]
  exact hm
 have h0 := A.n a ha h11
 unfold fQ
 split
 ·rename_i h2
  split
  ·exact key 1 (by omega)
  ·rename_i c cs
   exact key _ (by omega)
 ·exact key 0 h0
def HW (ts : List Int) (pts : List Pnt) (I : Nat → Mc → Prop) (r : Mc × Int × Nat) : Prop := r.2.1 = 1 ∨ ∃ s',r.2.2 < pts.length ∧ I r.2.2 s' ∧
 ((r.2.1 = 2 ∧ bL ts s' pts[r.2.2]! = true ∧ r.1 = s') ∨
  (bL ts s' pts[r.2.2]! = false ∧ (dD ts s' pts[r.2.2]!).2 ≠ -1 ∧ r.1 = (dD ts s' pts[r.2.2]!).1 ∧ r.2.1 = (dD ts s' pts[r.2.2]!).2))
theorem yL {I:Nat → Mc → Prop}{a:Nat}{l:List Nat}{s:Mc}{last:Nat}(ha:a < pts.length) (hs:I a s)
  (hrec : bL ts s pts[a]! = false → (dD ts s pts[a]!).2 = -1 → HW ts pts I (fO ts pts l (dD ts s pts[a]!).1 a)) : HW ts pts I (fO ts pts (a :: l) s last) := by
 by_cases h1 : bL ts s pts[a]! = true
 ·have e : fO ts pts (a :: l) s last = (s, 2, a) := by unfold fO; rw [if_pos h1]
  rw [e]; exact .inr ⟨s,ha,hs,.inl ⟨rfl,h1,rfl⟩⟩
 ·have h1' : bL ts s pts[a]! = false := by simpa using h1
  by_cases h2 : (dD ts s pts[a]!).2 = -1
  ·have e : fO ts pts (a :: l) s last = fO ts pts l (dD ts s pts[a]!).1 a := by
    conv => lhs;unfold fO
    rw [if_neg h1,if_pos h2]
   rw [e]; exact hrec h1' h2
  ·have e : fO ts pts (a :: l) s last = ((dD ts s pts[a]!).1, (dD ts s pts[a]!).2, a) := by
    unfold fO;rw [if_neg h1,if_neg h2]
   rw [e]; exact .inr ⟨s,ha,hs,.inr ⟨h1',h2,rfl,rfl⟩⟩
theorem vF {I:Nat → Mc → Prop}{a:Nat}{s:Mc}{last:Nat}(ha:a < pts.length) (hs:I a s) (h11:pts[a]!.op = 11):HW ts pts I (fO ts pts [a] s last) :=
 yL ha hs fun h1 h2 => by
  rw [zT h11] at h2
  rcases qT ts ts.length 0 s with q|q|q <;> (rw [q] at h2;cases h2)
theorem ED (w:WG ts pts) (A:WA ts pts) (I:Nat → Mc → Prop)
  (hI : ∀ a s k,a < pts.length → pts[a]!.op ≠ 11 → iG pts a k → I a s → bL ts s pts[a]! = false → (dD ts s pts[a]!).2 = -1 → I k (dD ts s pts[a]!).1) :
  ∀ n a cs s last,a < pts.length → I a s → HW ts pts I (fO ts pts (dS pts n a cs).1 s last) := by
 intro n
 induction n with
 | zero =>
  intro a cs s last ha hs
  by_cases h11 : pts[a]!.op = 11
  ·have e : (dS pts 0 a cs).1 = [a] := by unfold dS; rw [if_pos h11]
   rw [e]; exact vF ha hs h11
  ·have e : (dS pts 0 a cs).1 = [] := by rw [dS, if_neg h11]
   rw [e]; exact .inl rfl
 | succ n ih =>
  intro a cs s last ha hs
  by_cases h11 : pts[a]!.op = 11
  ·have e : (dS pts (n + 1) a cs).1 = [a] := by unfold dS; rw [if_pos h11]
   rw [e]; exact vF ha hs h11
  ·have e : (dS pts (n + 1) a cs).1 = a :: (dS pts n (fQ pts a cs).1 (fQ pts a cs).2).1 := by rw [dS, if_neg h11]
   have he := tS w A ha h11 cs
   rw [e]
   exact yL ha hs fun h1 h2 => ih _ _ _ _ (mI w he) (hI a s _ ha h11 he hs h1 h2)
end
section
variable {ts : List Int} {pts : List Pnt}
theorem B6 {s:Mc}{x:Pnt}(h:bL ts s x = true):∃ v,v < ts.length ∧ bB ts x v ≠ 0 ∧ s.slots[v]!.set = false:=by
 unfold bL at h
 obtain ⟨v,hv,h2⟩ := List.any_eq_true.1 h
 rw [Bool.and_eq_true,decide_eq_true_eq] at h2
 exact ⟨v,List.mem_range.1 hv,h2.1,by simpa using h2.2⟩
theorem lR (ts:List Int):∀ n v (s:Mc) (u:Nat),ts[u]! ≠ 2 → (b9 ts n v s).1.slots[u]! = s.slots[u]!
 | 0,_,_,_,_ => rfl
 | n + 1, v, s, u, hu => by
  unfold b9;split
  ·rename_i h
   have hne : v ≠ u := fun e => hu (e ▸ h.1)
   split
   ·rw [lR ts n _ _ u hu]
    show (s.slots.set v qH)[u]! = _
    rw [c7,if_neg (fun h => hne h.1)]
   ·rfl
  ·exact lR ts n _ _ u hu
end
theorem yZ {m:List Cl}{x:Pt}{u:Bool}(h:u6 m x u = 0):a8 m x u = 0:=by
 unfold u6 at h
 by_cases h0 : a8 m x u = 0
 ·exact h0
 ·rw [if_neg h0] at h;exact h
theorem oO (ts:List Int):∀ n v (s:Mc),(b9 ts n v s).1.read = s.read
 | 0,_,_ => rfl
 | n + 1, v, s => by
  unfold b9;split
  ·split
   ·exact oO ts n _ _
   ·rfl
  ·exact oO ts n _ _
theorem gI (ts:List Int) (s:Mc) (v:Nat) (x:Sl):(bO ts s v x).1.read = s.read := by unfold bO;split <;> rfl
end Go.AL
