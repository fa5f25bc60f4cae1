/-
 A part of the proofs over this program: rules and contracts of its functions (the rules).
-/
import Derived.Test.YtahdccneecdmmaaGreatJ3A06
set_option linter.unusedVariables false
set_option linter.unusedSimpArgs false
namespace Go.AL
def uW (R : List (List Bool)) (b : Bnd) : List (List Bool) :=
 if 0 ≤ b.loan then R.set b.var.toNat (R[b.var.toNat]!.set b.loan.toNat true) else R.set b.var.toNat (gO R[b.var.toNat]! R[b.src.toNat]!)
def HI (L : List Bnd) (R : List (List Bool)) : Nat → List (List Bool)
 | 0 => R
 | k + 1 => L.foldl uW (HI L R k)
structure SRr (ts : List Int) (pts : List Pnt) (R : List (List Bool)) : Prop where
 l : R.length = ts.length
 r : ∀ v,v < ts.length → R[v]!.length = pts.length
 s : ∀ v,v < ts.length → ∀ l,l < pts.length → R[v]![l]! = true → Rg ts pts (v,l)
def AY (nt l : Nat) (R : List (List Bool)) : Nat := lX (fun v => if R[v]![l]! = true then 1 else 0) nt
def RL (l : Nat) (R : List (List Bool)) (b : Bnd) : Prop := (b.loan = (l : Int) → R[b.var.toNat]![l]! = true) ∧ (0 ≤ b.src → R[b.src.toNat]![l]! = true → R[b.var.toNat]![l]! = true)
theorem SRr.rep (ts:List Int) (pts:List Pnt):SRr ts pts (List.replicate ts.length (List.replicate pts.length false)):=by
 refine ⟨by simp,fun v hv => by rw [c5 _ _ _ hv]; simp,fun v hv l hl h => ?_⟩
 rw [c5 _ _ _ hv,c5 _ _ _ hl] at h;cases h
theorem I1 {ts:List Int}{pts:List Pnt}{R:List (List Bool)}(S:SRr ts pts R){l:Nat}(hl:l < pts.length) (hC:∀ b ∈ kW ts pts pts.length,RL l R b):∀ v,v < ts.length → (R[v]![l]! = true ↔ Rg ts pts (v,l)) := fun v hv => by
 refine ⟨S.s v hv l hl,fun h => ?_⟩
 have key : ∀ a : Nat × Nat, Rg ts pts a → a.2 = l → R[a.1]![l]! = true := by
  intro a ha
  induction ha with
  | @base a h =>
   intro e
   obtain ⟨b,hb,h1,h2⟩ := h
   have := (hC b hb).1 (by omega)
   rwa [show b.var.toNat = a.1 by omega] at this
  | @step a c _ r ih =>
   intro e
   obtain ⟨e1,b,hb,h1,h2⟩ := r
   have := (hC b hb).2 (by omega) (by rw [show b.src.toNat = a.1 by omega]; exact ih (by omega))
   rwa [show b.var.toNat = c.1 by omega] at this
 exact key (v,l) h rfl
section
variable {ts : List Int} {pts : List Pnt} (w : WG ts pts) (t : WT ts pts)
include w t
theorem OD {R:List (List Bool)}(S:SRr ts pts R){b:Bnd}(hb:b ∈ kW ts pts pts.length) :
  SRr ts pts (uW R b) ∧ (∀ v,v < ts.length → ∀ l,l < pts.length → R[v]![l]! = true → (uW R b)[v]![l]! = true) ∧
  ∀ l,l < pts.length → ((∀ v,v < ts.length → (uW R b)[v]![l]! = R[v]![l]!) ∧ RL l R b) ∨ AY ts.length l R < AY ts.length l (uW R b) := by
 have ok := qP w t hb
 have hv := ok.v
 have hl := S.l
 have hvl : b.var.toNat < ts.length := by omega
 have hrl := S.r _ hvl
 -- the new row, bit by bit
 obtain ⟨row, e, hlen, hbit⟩ : ∃ row, uW R b = R.set b.var.toNat row ∧ row.length = pts.length ∧ ∀ l, l < pts.length → (row[l]! = true ↔ (R[b.var.toNat]![l]! = true ∨ b.loan = (l : Int) ∨ (0 ≤ b.src ∧ R[b.src.toNat]![l]! = true))) := by
  unfold uW
  rcases ok.k with ⟨h1,h2,h3⟩ | ⟨h1,h2,h3,_⟩
  ·rw [if_pos h1]
   refine ⟨_,rfl,by rw [List.length_set]; exact hrl,fun l hl => ?_⟩
   rw [aQ]
   by_cases q : b.loan.toNat = l
   ·rw [if_pos ⟨q,by omega⟩]; exact ⟨fun _ => .inr (.inl (by omega)),fun _ => rfl⟩
   ·rw [if_neg (by omega)]
    exact ⟨.inl,fun h => by rcases h with h|h|h;exact h;omega;omega⟩
  ·rw [if_neg (by omega)]
   have hsl := S.r b.src.toNat (by omega)
   refine ⟨_,rfl,by rw [fW]; exact hrl,fun l hl => ?_⟩
   rw [e8 _ _ _ (by omega),decide_eq_true (by omega : l < R[b.src.toNat]!.length),Bool.true_and,Bool.or_eq_true]
   exact ⟨fun h => h.elim .inl (fun h => .inr (.inr ⟨h2,h⟩)),fun h => by rcases h with h|h|h;exact .inl h;omega;exact .inr h.2⟩
 have hget : ∀ v, (uW R b)[v]! = if v = b.var.toNat then row else R[v]! := fun v => by
  rw [e,aQ]
  by_cases q : b.var.toNat = v
  ·rw [if_pos ⟨q,by omega⟩,if_pos q.symm]
  ·rw [if_neg (by omega),if_neg (fun h => q h.symm)]
 have hmono : ∀ v, v < ts.length → ∀ l, l < pts.length → R[v]![l]! = true → (uW R b)[v]![l]! = true := fun v _ l hl h => by
  rw [hget]; split
  ·rename_i q;subst q;exact (hbit l hl).2 (.inl h)
  ·exact h
 refine ⟨⟨by rw [e,List.length_set]; exact hl,fun v hv => ?_,fun v hv l hl h => ?_⟩,hmono,fun l hl => ?_⟩
 ·rw [hget]; split
  ·exact hlen
  ·exact S.r v hv
 ·rw [hget] at h; split at h
  ·rename_i q; subst q
   rcases (hbit l hl).1 h with h|h | ⟨h1,h2⟩
   ·exact S.s _ hv l hl h
   ·exact .base ⟨b,hb,by dsimp only;omega,h⟩
   ·have hk : b.src.toNat < ts.length := by rcases ok.k with h | h <;> omega
    exact .step (a := (b.src.toNat,l)) (S.s _ hk l hl h2) ⟨rfl,b,hb,by dsimp only;omega,by dsimp only;omega⟩
  ·exact S.s v hv l hl h
 ·by_cases hc : R[b.var.toNat]![l]! = row[l]!
  ·refine .inl ⟨fun v hv => ?_, fun h => ?_, fun h1 h2 => ?_⟩
   ·rw [hget]; split
    ·rename_i q;subst q;exact hc.symm
    ·rfl
   ·rw [hc]; exact (hbit l hl).2 (.inr (.inl h))
   ·rw [hc]; exact (hbit l hl).2 (.inr (.inr ⟨h1,h2⟩))
  ·refine .inr (nO _ (fun v hv => ?_) ⟨b.var.toNat, hvl, ?_⟩)
   ·have := hmono v hv l hl
    by_cases q : R[v]![l]! = true
    ·rw [if_pos q,if_pos (this q)]; exact Nat.le_refl _
    ·rw [if_neg q]; exact Nat.zero_le _
   ·have h0 : R[b.var.toNat]![l]! ≠ true := fun h => hc (by rw [h, (hbit l hl).2 (.inl h)])
    have h1 : row[l]! = true := by
     cases q : row[l]! with
     | true => rfl
     | false => exfalso; cases q2 : R[b.var.toNat]![l]! with
      | true => exact h0 q2
      | false => exact hc (by rw [q,q2])
    have h2 := hget b.var.toNat
    rw [if_pos rfl] at h2
    rw [if_neg h0,h2,if_pos h1]; exact Nat.one_pos
theorem r7:∀ (L:List Bnd),(∀ b ∈ L,b ∈ kW ts pts pts.length) → ∀ R,SRr ts pts R →
  SRr ts pts (L.foldl uW R) ∧ (∀ v,v < ts.length → ∀ l,l < pts.length → R[v]![l]! = true → (L.foldl uW R)[v]![l]! = true) ∧
  ∀ l,l < pts.length → ((∀ v,v < ts.length → (L.foldl uW R)[v]![l]! = R[v]![l]!) ∧ ∀ b ∈ L,RL l R b) ∨ AY ts.length l R < AY ts.length l (L.foldl uW R)
 | [],_,R,S => ⟨S,fun _ _ _ _ h => h,fun l hl => .inl ⟨fun _ _ => rfl,by simp⟩⟩
 | b :: L, hL, R, S => by
  obtain ⟨S1,m1,c1⟩ := OD w t S (hL b List.mem_cons_self)
  obtain ⟨S2,m2,c2⟩ := r7 L (fun x hx => hL x (List.mem_cons_of_mem _ hx)) (uW R b) S1
  rw [List.foldl_cons]
  refine ⟨S2,fun v hv l hl h => m2 v hv l hl (m1 v hv l hl h),fun l hl => ?_⟩
  have le : ∀ {R R' : List (List Bool)}, (∀ v, v < ts.length → R[v]![l]! = true → R'[v]![l]! = true) → AY ts.length l R ≤ AY ts.length l R' := fun {R R'} h => sumF_le _ fun v hv => by
   by_cases q : R[v]![l]! = true
   ·rw [if_pos q,if_pos (h v hv q)]; exact Nat.le_refl _
   ·rw [if_neg q]; exact Nat.zero_le _
  rcases c1 l hl with ⟨d1,d2⟩|d
  ·rcases c2 l hl with ⟨e1, e2⟩ | e
   ·refine .inl ⟨fun v hv => by rw [e1 v hv, d1 v hv], fun x hx => ?_⟩
    rcases List.mem_cons.1 hx with rfl|hx
    ·exact d2
    ·have ok := qP w t (hL x (List.mem_cons_of_mem _ hx))
     have hv := ok.v
     have h3 := e2 x hx
     refine ⟨fun h => by rw [← d1 _ (by omega)]; exact h3.1 h,fun h1 h2 => ?_⟩
     have hk : x.src.toNat < ts.length := by rcases ok.k with h|h <;> omega
     rw [← d1 _ (by omega)]
     exact h3.2 h1 (by rw [d1 _ hk]; exact h2)
   ·have := le (R := R) (R' := uW R b) (fun v hv h => m1 v hv l hl h)
    exact .inr (by omega)
  ·have := le (R := uW R b) (R' := L.foldl uW (uW R b)) (fun v hv h => m2 v hv l hl h)
   exact .inr (by omega)
theorem rU (R0:List (List Bool)) (S0:SRr ts pts R0):∀ k,SRr ts pts (HI (kW ts pts pts.length) R0 k) ∧ ∀ l,l < pts.length →
  ((∀ v,v < ts.length → ((HI (kW ts pts pts.length) R0 k)[v]![l]! = true ↔ Rg ts pts (v,l))) ∨ k ≤ AY ts.length l (HI (kW ts pts pts.length) R0 k))
 | 0 => ⟨S0,fun l _ => .inr (Nat.zero_le _)⟩
 | k + 1 => by
  obtain ⟨S,h⟩ := rU R0 S0 k
  obtain ⟨S2,m2,c2⟩ := r7 w t _ (fun b hb => hb) _ S
  refine ⟨S2,fun l hl => ?_⟩
  have hup : (∀ v, v < ts.length → ((HI (kW ts pts pts.length) R0 k)[v]![l]! = true ↔ Rg ts pts (v, l))) → ∀ v, v < ts.length → ((HI (kW ts pts pts.length) R0 (k + 1))[v]![l]! = true ↔ Rg ts pts (v, l)) := fun g v hv =>
   ⟨S2.s v hv l hl,fun hr => m2 v hv l hl ((g v hv).2 hr)⟩
  rcases c2 l hl with ⟨_,hC⟩|hgrow
  ·exact .inl (hup (I1 S hl hC))
  ·rcases h l hl with g | g
   ·exact .inl (hup g)
   ·exact .inr (by show k + 1 ≤ AY ts.length l ((kW ts pts pts.length).foldl uW (HI (kW ts pts pts.length) R0 k));omega)
def B6 (nt n : Nat) (A : List Nat) : List (List Bool) := (List.range nt).map fun (v : Nat) => (List.range n).map fun (l : Nat) => A[v]!.testBit l
theorem Dd (R0:List (List Bool)) (S0:SRr ts pts R0){A:List Nat}(hA:GoodG ts pts A):HI (kW ts pts pts.length) R0 (ts.length + 1) = B6 ts.length pts.length A:=by
 obtain ⟨S,h⟩ := rU w t R0 S0 (ts.length + 1)
 have htl := w.tl
 refine bV (by rw [S.l]; simp [B6]) fun v hv => ?_
 rw [S.l] at hv
 unfold B6
 rw [a6 _ _ _ hv]
 refine bV (by rw [S.r v hv]; simp) fun l hl => ?_
 rw [S.r v hv] at hl
 rw [a6 _ _ _ hl,Bool.eq_iff_iff,hA.2 v (by omega) l]
 have hcnt : AY ts.length l (HI (kW ts pts pts.length) R0 (ts.length + 1)) ≤ ts.length := by
  have := sumF_le (f := fun v => if (HI (kW ts pts pts.length) R0 (ts.length + 1))[v]![l]! = true then 1 else 0) (g := fun _ => 1) ts.length (fun i _ => by split <;> omega)
  rw [vE] at this
  exact this
 rcases h l hl with g|g
 ·exact g v hv
 ·omega
end
def oH (n : Nat) (A : List Nat) : List Nat := (List.replicate n A).flatten
theorem qS (A:List Nat) (h:A.length = 6):∀ n,(oH n A).length = n * 6
 | 0 => rfl
 | n + 1 => by unfold oH;rw [List.replicate_succ,List.flatten_cons,List.length_append]; have := qS A h n;unfold oH at this;omega
theorem pE (A:List Nat) (h:A.length = 6):∀ n i,i < n → cH (oH n A) i = A
 | n + 1, 0, _ => by
  unfold cH oH;rw [List.replicate_succ,List.flatten_cons,Nat.zero_mul,List.drop_zero,← h,List.take_left]
 | n + 1, i + 1, hi => by
  have := pE A h n i (by omega)
  unfold cH oH at this ⊢
  rw [List.replicate_succ,List.flatten_cons,show (i + 1) * 6 = A.length + i * 6 by omega,List.drop_append,List.drop_eq_nil_of_le (by omega),List.nil_append,show A.length + i * 6 - A.length = i * 6 by omega]
  exact this
def zO (p : Prg) (f : Flows p.types (aB p)) (A : List Nat) : List Iss := iX p.types (aB p) f.Aa f.Am f.Al (oH (aB p).length A) f.Ap (aB p).length
section
variable {ts : List Int} {pts : List Pnt}
theorem Q9 {l:Nat}(hl:l < pts.length) (h:bW pts[l]! = true):(⟨pts[l]!.x,l,-1⟩:Bnd) ∈ kW ts pts pts.length :=
 Av.2 ⟨l,hl,by unfold KU;rw [if_pos h]; simp⟩
theorem Q8 {i:Nat}(hi:i < pts.length) (h:(bW pts[i]! = true ∨ pts[i]!.op = 3) ∧ eF ts[pts[i]!.y.toNat]! = true):(⟨pts[i]!.x,-1,pts[i]!.y⟩:Bnd) ∈ kW ts pts pts.length :=
 Av.2 ⟨i,hi,by unfold KU;rw [if_pos h]; simp⟩
theorem Bh {x:Pnt}(h:bW x = true ∨ x.op = 3):aM x = x.x:=by
 unfold aM
 rw [if_pos]
 rcases h with h|h
 ·have := fZ h;omega
 ·omega
theorem Rm (w:WG ts pts) (t:WT ts pts){a:Nat × Nat × Nat}(h:Et ts pts a):eF ts[a.2.1]! = true ∧ Rg ts pts (a.2.1,a.2.2):=by
 induction h with
 | @base a h =>
  obtain ⟨e,h1,h2⟩ := h
  rw [Bh (.inl h1)] at h2
  have h3 := (t.ln _ e.1 (fZ h1)).1
  rw [show pts[a.2.2]!.x.toNat = a.2.1 by omega] at h3
  exact ⟨h3,.base ⟨_,Q9 e.1 h1,h2,rfl⟩⟩
 | @step a b _ r ih =>
  obtain ⟨e,e1,h⟩ := r
  rcases h with ⟨_,h2,_⟩ | ⟨h1,h2,h3⟩
  ·rw [h2,e]; exact ih
  ·have hk : bW pts[a.1]! = true ∨ pts[a.1]!.op = 3 := h3.imp (·.1) id
   rw [Bh hk] at h1
   have hy : pts[a.1]!.y.toNat = a.2.1 := by omega
   have hx : pts[a.1]!.x.toNat = b.2.1 := by omega
   have href : eF ts[pts[a.1]!.y.toNat]! = true := by rw [hy]; exact ih.1
   refine ⟨?_,.step (a := (a.2.1,a.2.2)) ih.2 ⟨e,_,Q8 e1.1 ⟨hk,href⟩,h2.symm,h1⟩⟩
   rcases hk with hk|hk
   ·have h4 := (t.ln _ e1.1 (fZ hk)).1;rw [hx] at h4;exact h4
   ·have h4 := (t.mv _ e1.1 hk).1;rw [hx] at h4;rw [h4]; exact href
theorem Nh {x:Pnt}{live:Nat}{f g:List Nat}(h:∀ v:Nat,∀ l,f[v]!.testBit l = true → g[v]!.testBit l = true){l:Nat}(hl:(k8 ts x live f).testBit l = true):(k8 ts x live g).testBit l = true:=by
 unfold k8 at hl ⊢
 rw [dI] at hl ⊢
 rcases hl with h1 | ⟨z,hz,h1⟩
 ·exact .inl h1
 ·exact .inr ⟨_,hz,h _ l h1⟩
theorem M4 (w:WG ts pts) (f:Flows ts pts){Af':List Nat}{i:Nat}(h:∀ v:Nat,∀ l,(cH f.Af i)[v]!.testBit l = true → (cH Af' i)[v]!.testBit l = true){l:Nat}(hl:(tB ts pts f.Am f.Al f.Af f.Ap i).testBit l = true):(tB ts pts f.Am f.Al Af' f.Ap i).testBit l = true:=by
 have b := f.bnd w
 have hpl := w.pl
 have hs : ∀ K : Nat,Sm (K &&& f.Ap[i]!) := fun K => jG (n := pts.length) (by omega) (Nat.and_lt_two_pow _ (b.bP i))
 unfold tB at hl ⊢
 rw [fK _ _ _ (hs _)] at hl ⊢
 rcases hl with hl | ⟨c,hc,h1,h2⟩
 ·exact .inl hl
 ·refine .inr ⟨c, hc, ?_, h2⟩
  rw [Nat.testBit_and,Bool.and_eq_true] at h1 ⊢
  exact ⟨Nh h h1.1,h1.2⟩
theorem Ie (w:WG ts pts) (t:WT ts pts) (f:Flows ts pts){A:List Nat}(hA:GoodG ts pts A){i:Nat}(hi:i < pts.length) (v l:Nat) (h:(cH f.Af i)[v]!.testBit l = true):(cH (oH pts.length A) i)[v]!.testBit l = true:=by
 rw [pE A hA.1 _ i hi]
 by_cases hv : v < 6
 ·rw [dS f.gf.1 hi hv] at h
  exact (hA.2 v hv l).2 (Rm w t ((f.gf.2 i v hi hv l).1 h)).2
 ·rw [getElem!_neg _ v (by rw [eQ f.gf.1 hi]; exact hv)] at h;simp at h
theorem K5 (w:WG ts pts) (t:WT ts pts) (f:Flows ts pts){A:List Nat}(hA:GoodG ts pts A) (x:Iss) (hx:x ∈ f.iss):x ∈ iX ts pts f.Aa f.Am f.Al (oH pts.length A) f.Ap pts.length:=by
 unfold Flows.iss iX at hx
 unfold iX
 obtain ⟨i,hi,h⟩ := List.mem_flatMap.1 hx
 have hin := List.mem_range.1 hi
 refine List.mem_flatMap.2 ⟨i,hi,?_⟩
 unfold xH at h ⊢
 rcases List.mem_append.1 h with h|h
 ·exact List.mem_append.2 (.inl h)
 ·obtain ⟨z, hz, rfl⟩ := List.mem_map.1 h
  obtain ⟨l,h1,h2,rfl⟩ := bU.1 hz
  exact List.mem_append.2 (.inr (List.mem_map.2 ⟨_,bU.2 ⟨l,h1,M4 w f (Ie w t f hA hin) h2,rfl⟩,rfl⟩))
end
theorem Np (nt n:Nat) (A Ap:List Nat) (hA:A.length = 6) (hnt:nt ≤ 6){i:Nat}(hi:i < n):(e7 nt n (oH n A) Ap i).1 = B6 nt n A:=by
 unfold e7 B6
 dsimp only
 refine List.map_congr_left fun v hv => List.map_congr_left fun l hl => ?_
 have hv := List.mem_range.1 hv
 rw [← dS (qS A hA n) hi (by omega : v < 6),pE A hA n i hi]
theorem LM (nt n:Nat) (A:List Nat):(B6 nt n A).length = nt := by simp [B6]
theorem LO (nt n:Nat) (A:List Nat){v:Nat}(hv:v < nt):(B6 nt n A)[v]!.length = n:=by
 unfold B6;rw [a6 _ _ _ hv]; simp
end Go.AL
namespace Go.AL
open Go.RowKit
theorem Le.fset2 {ts:List (Nat × AV)}{hs hs':List (Nat × Option (List AV))}{n:Nat}{z0:Lo}{k j:Nat}{r:List Bool}{R:List (List Bool)}(hF:FamR R (R.set k r) hs hs') (hk:k < R.length) (hj:j < R.length) (hkj:k ≠ j) :
  Le ⟨ts,(j + aX,some (flat cB R[j]!)) :: (k + aX,some (flat cB r)) :: hs,n,z0⟩ ⟨ts,hs',n,z0⟩ := by
 refine Le.of (fun _ _ h => h) (fun i cs h => ?_) (Nat.le_refl _) rfl
 have h' : aU hs' i = some cs := h
 show aU ((j + aX,some (flat cB R[j]!)) :: (k + aX,some (flat cB r)) :: hs) i = some cs
 rcases Nat.lt_or_ge i aX with hi|hi
 ·rw [cS,if_neg (by omega),cS,if_neg (by omega),hF.low i hi]; exact h'
 ·obtain ⟨q, rfl⟩ : ∃ q, i = q + aX := ⟨i - aX, by omega⟩
  rw [hF.symm.fam] at h'
  split at h'
  ·rename_i hq
   rw [List.length_set] at hq
   rw [Bw] at h'
   rw [cS]
   by_cases e : q = j
   ·subst e
    rw [if_neg (fun q => hkj q.1)] at h'; rw [if_pos rfl]; exact h'
   ·rw [if_neg (by omega), cS]
    by_cases e2 : q = k
    ·subst e2;rw [if_pos ⟨rfl,hk⟩] at h'; rw [if_pos rfl]; exact h'
    ·rw [if_neg (fun z => e2 z.1.symm)] at h'
     rw [if_neg (by omega),hF.get hq]; exact h'
  ·cases h'
theorem QH {j k:Nat}(h:k ≠ j):distinct [k + aX,j + aX] = true:=by
 have : Nat.beq (k + aX) (j + aX) = false := by
  cases h2 : Nat.beq (k + aX) (j + aX) with
  | false => rfl
  | true => have := Nat.eq_of_beq_eq_true h2;omega
 simp only [distinct,List.all_cons,List.all_nil,this]; rfl
section
variable {P : Program} {C : Ctx} {ι : Pl} {T : Nat → Option AV} {F : Nat → Prop} {H : Nat → Option (List AV)} {a : Act} {w : World} {o : Oper}
theorem BM {bad:Nat → Prop}{zs:List Value}(h:zs.all (·.oneCell') = true):∀ n,RdL w bad ι (List.replicate n (zs.map AV.v)).flatten (List.replicate n zs).flatten
 | 0 => by simp [RdL]
 | n + 1 => by
  rw [List.replicate_succ,List.replicate_succ,List.flatten_cons,List.flatten_cons]
  exact RdL.append (vF h) (BM h n)
theorem Jn (gh:HG C ι F H w){t el:TypeId}{x:Operand}{id off n e:Nat}{cs:List AV}{zs:List Value}
  (ho : o.op = .call ⟨.builtin .clear,#[x],#[t]⟩) (hx : Rd w (aL C.X ι H) ι (.own id off n e) (a.eval x)) (hd : o.dst = none)
  (ht : nK P t = some el) (he : gC P el = some e) (hz : pH P el = some zs) (hze : zs.length = e)
  (hH : H id = some cs) (h0 : 0 < n) (hl : off + n * e ≤ cs.length) :
  Ef P C ι F H a w o (.tup []) (e5 H id (some (hZ cs off (List.replicate n (zs.map AV.v)).flatten))) := by
 obtain ⟨i,z,h1,h2,h3,h4⟩ := rQ hz
 have hu := kP ht
 have hsz := A9 he h1
 simp only [Rd] at hx
 rcases hx with ⟨_,rfl,_⟩ | ⟨b,β,c,p1,p2,p3,p4⟩
 ·omega
 have hlen : ((List.replicate n (zs.map AV.v)).flatten).length = n * e := by
  rw [List.length_flatten]; simp [hze]
 obtain ⟨w',q1,q2,q3⟩ := Cn (P := P) gh hH p1 (off := off) (new := (List.replicate n (zs.map AV.v)).flatten) (by rw [hlen]; exact hl) (BM h4 n)
 have hr : (Builtin.clear_ #[t] o.type #[a.eval x]).run P w = .ok (.tuple #[]) w' := by
  rw [p2]
  cases n with
  | zero => omega
  | succ n =>
   have hzc : (Builtin.zeroCells z.cells (n + 1)).toList = (List.replicate (n + 1) zs).flatten := by rw [wI,h3]
   simp [Builtin.clear_,cF hu,zeroValue,typeInfo,h1,h2,hzc,q1]
 refine ⟨.value (.tuple #[]),.tuple #[],ι,w',?_,.inl ⟨rfl,?_⟩,q2,q3⟩
 ·simp [execOp,ho,resolve,invoke,builtin,hr]
 ·simp only [Rd]; exact ⟨[],rfl,by simp [RdV]⟩
end
section
variable {P : Program} {N : Nat} {Q : Exit → AS → Prop} {all : Array Oper} {rest : List Oper} {ts : List (Nat × AV)} {hs : List (Nat × Option (List AV))} {n : Nat} {z0 : Lo} {md : Md}
variable {d : Nat} {ty : TypeId} {pos : String} {af : Array Edge}
theorem Iu {t el id off m e:Nat}{x:Operand}{cs cs':List AV}{zs:List Value}[ht:SlT P t el] [he:SzT P el e] [hz:ZrT P el zs]
  (hx : ev (lk ts) x = some (.own id off m e)) (hze : zs.length = e) (h0 : 0 < m) (hH : aU hs id = some cs) (hl : off + m * e ≤ cs.length)
  (hcs : hZ cs off (List.replicate m (zs.map AV.v)).flatten = cs') {md' : Md} [hmd : MdA md (rO x ++ [.inr id]) [.inr id] md'] (kk : RW P N all Q md' rest ⟨ts,(id,some cs') :: hs,n,z0⟩) :
  RW P N all Q md (⟨none,.call ⟨.builtin .clear,#[x],#[t]⟩,ty,pos,af,none⟩ :: rest) ⟨ts,hs,n,z0⟩ := by
 subst hcs
 exact Fy (rs := rO x ++ [.inr id]) (ws := [(id, some (hZ cs off (List.replicate m (zs.map AV.v)).flatten))]) (n' := n) (out := .tup []) rfl (fun _ h => by cases h) (Nat.le_refl n) (.inl rfl)
  (fun C ι F T H a w ag hF g gh => E7 (Jn gh rfl (cA g (ag.l.ev.trans hx)) rfl ht.pf he.pf hz.pf hze ((ag.r.h id (by simp)).trans hH) h0 hl)) (by
   show RW P N all Q (md.add (rO x ++ [.inr id]) [.inr id]) rest ⟨ts,(id,some (hZ cs off (List.replicate m (zs.map AV.v)).flatten)) :: hs,n,z0⟩
   rw [hmd.pf]; exact kk)
end
end Go.AL
namespace Go.AL
section
variable {P : Program} {N : Nat} {Q : Exit → AS → Prop} {all : Array Oper} {rest : List Oper} {ts : List (Nat × AV)} {hs : List (Nat × Option (List AV))} {n : Nat} {z0 : Lo} {md : Md}
variable {d : Nat} {ty : TypeId} {pos : String} {af : Array Edge}
theorem yV (w:World) (t el:TypeId) (hu:P.underlying t = some (.slice el)) (a:Option Addr) (m c:Nat):(binOp .eql t (.slice a m c) (.slice none 0 0)).run P w = .ok (.bool a.isNone) w:=by
 have h0 : ∀ d : Nat, (Op.equalIn (d + 1) t (.slice a m c) (.slice none 0 0)).run P w = .ok a.isNone w := fun d => by
  cases a <;> simp [Op.equalIn,cF hu]
 have h := h0 9999
 simp only [binOp]
 simp [Op.equal,Op.maxDepth,h]
theorem BT {t t' el:TypeId}{x:Operand}{m:Nat}{cs:List AV}[ht:SlT P t el] (hx:ev (lk ts) x = some (.imm m cs)) (hN:Nat.blt d N = true)
  (kk : ∀ b : Bool,(b = true → m = 0) → RW P N all Q .txt rest ⟨(d,.v (.bool b)) :: ts,hs,n,z0⟩) : RW P N all Q .txt (⟨some d,.binOp .eql t x (.const (.slice none 0 0)) t',ty,pos,af,none⟩ :: rest) ⟨ts,hs,n,z0⟩ := by
 rintro C a w hCN ⟨h0,ι,g,gh⟩
 refine wpList_plain rfl (fun K hK => ?_)
 have h1 := cA g hx
 simp only [Rd] at h1
 obtain ⟨a',c,h2,h3⟩ := h1
 have hu := kP ht.pf
 have hb : a'.isNone = true → m = 0 := fun hn => by
  rcases h3 with h3 | ⟨b,o,_,rfl,_⟩
  ·exact h3
  ·cases hn
 have hg : (eqGuard .eql t x (.const (.slice none 0 0)) (.slice a' m c) (.slice none 0 0)).run P w = .ok () w := by simp [eqGuard]
 have hr : (execOp a.eval ⟨some d, .binOp .eql t x (.const (.slice none 0 0)) t', ty, pos, af, none⟩).run P w = .ok (.value (.bool a'.isNone)) w := by
  have e2 : a.eval (.const (.slice none 0 0)) = .slice none 0 0 := rfl
  simp only [execOp,h2,e2,Sem.run_bind,hg,Result.andThen_ok,yV w t el hu,Sem.run_pure]
 simp only [Oper.wp,hr,Oper.upon]
 refine hK _ _ (kk a'.isNone hb C _ _ hCN ⟨h0,ι,?_,gh⟩)
 show TG C ι (lk ((d,AV.v (.bool a'.isNone)) :: ts)) _ _ _
 rw [iG]
 exact g.put (by have := dG hN;omega) (by simp [Rd])
end
theorem EU {α:Type}{f:α → List AV}{e:Nat}[h:FlT f e] {hs:List (Nat × Option (List AV))}{xs:List α}{i k n:Nat}(hH:aU hs i = some (flat f xs)) (hn:n = xs.length - k):sCells (aU hs) e (rH (.own i (0 + k * e) n e)) = some (n,flat f (xs.drop k)):=by
 show ((aU hs i).bind fun cs => if n * e ≤ (cs.drop (0 + k * e)).length then some (n,(cs.drop (0 + k * e)).take (n * e)) else none) = _
 rw [hH,Option.bind_some,Nat.zero_add]
 have h1 : (flat f xs).length = xs.length * e := aI f xs
 have h3 : (flat f xs).drop (k * e) = flat f (xs.drop k) := by
  have h4 : flat f xs = flat f (xs.take k) ++ flat f (xs.drop k) := by rw [cP,List.take_append_drop]
  have h5 : (flat f (xs.take k)).length = (xs.take k).length * e := aI f _
  by_cases hk : k ≤ xs.length
  ·rw [h4,← show (flat f (xs.take k)).length = k * e from by rw [h5,List.length_take]; congr 1;omega,List.drop_left]
  ·rw [List.drop_of_length_le (by rw [h1]; exact Nat.mul_le_mul_right _ (by omega)),List.drop_of_length_le (by omega)]; rfl
 rw [h3]
 have h2 : (flat f (xs.drop k)).length = (xs.length - k) * e := by rw [aI f (e := e),List.length_drop]
 rw [h2,hn,if_pos (Nat.le_refl _),List.take_of_length_le (by rw [h2]; exact Nat.le_refl _)]
theorem rG {T:Nat → Option AV}{x:Operand}{dd:Nat}{k:IntKind}{m:Int}{h:Nat}(hx:ev T x = some (.v (.int k m))) (e:m = (h:Int)):g9 T (some x) dd = some h:=by
 simp only [g9,hx]; rw [if_pos (by omega)]; congr 1;omega
structure Tg where
 id : Int
 uq : Bool
 deriving Inhabited,DecidableEq
structure Cl where
 val : Int
 alive : Bool
 next : Int
 stk : List Tg
 deriving Inhabited,DecidableEq
structure Pt where
 cell : Int
 tag : Int
 deriving Inhabited,DecidableEq
structure Sl where
 set : Bool
 num : Int
 ptr : Pt
 deriving Inhabited,DecidableEq
def cL (t : Tg) : List AV := [iv t.id,bv t.uq]
def bO (c : Cl) : List AV := [iv c.val,bv c.alive,iv c.next,sl cL c.stk]
def dK (s : Sl) : List AV := [bv s.set,iv s.num,iv s.ptr.cell,iv s.ptr.tag]
instance : FlT cL 2:=⟨fun _ => rfl⟩
instance : FlT bO 4:=⟨fun _ => rfl⟩
instance : FlT dK 4:=⟨fun _ => rfl⟩
instance : FE cL (fun t => [iv t.id,bv t.uq]):=⟨fun _ => rfl⟩
instance : FE bO (fun c => [iv c.val,bv c.alive,iv c.next,sl cL c.stk]):=⟨fun _ => rfl⟩
instance : FE dK (fun s => [bv s.set,iv s.num,iv s.ptr.cell,iv s.ptr.tag]):=⟨fun _ => rfl⟩
instance (t : Tg) : Pur (cL t):=⟨rfl⟩
instance (c : Cl) : Pur (bO c):=⟨by show (true && (true && (true && ((sl cL c.stk).pur && true)))) = true;rw [bB]; rfl⟩
instance (s : Sl) : Pur (dK s):=⟨rfl⟩
abbrev R7 (t : Tg) : AV := .agg [iv t.id,bv t.uq]
abbrev Sc (c : Cl) : AV := .agg [iv c.val,bv c.alive,iv c.next,sl cL c.stk]
abbrev nZ (p : Pt) : AV := .agg [iv p.cell,iv p.tag]
abbrev JA (s : Sl) : AV := .agg [bv s.set,iv s.num,iv s.ptr.cell,iv s.ptr.tag]
structure OkC (c : Cl) : Prop where
 v : 0 ≤ c.val ∧ c.val ≤ 9
 n : 1 ≤ c.next ∧ c.next ≤ 1000
 l : 1 ≤ c.stk.length ∧ c.stk.length ≤ 200
 u : c.stk[0]!.uq = true
 i : ∀ t ∈ c.stk,0 ≤ t.id ∧ t.id < c.next
 d : (c.stk.map (·.id)).Nodup
structure OkM (m : List Cl) : Prop where
 l : m.length ≤ 200
 c : ∀ c ∈ m,OkC c
def cD (stk : List Tg) (id : Int) : Int := match stk.findIdx? (fun t => decide (t.id = id)) with | some k => k | none => -1
theorem eG (stk:List Tg) (id:Int):-1 ≤ cD stk id ∧ cD stk id < stk.length:=by
 unfold cD
 split
 ·rename_i k h
  obtain ⟨h1,_⟩ := List.findIdx?_eq_some_iff_getElem.1 h
  omega
 ·omega
theorem Eu {stk:List Tg}{id:Int}(h:0 ≤ cD stk id):stk[(cD stk id).toNat]!.id = id:=by
 unfold cD at h ⊢
 split
 ·rename_i k hk
  obtain ⟨h1,h2,_⟩ := List.findIdx?_eq_some_iff_getElem.1 hk
  rw [Int.toNat_natCast,bC _ _ h1]
  simpa using h2
 ·rename_i hk;rw [hk] at h;dsimp only at h;omega
theorem oB {stk:List Tg}{id:Int}:cD stk id < 0 ↔ ∀ t ∈ stk,t.id ≠ id:=by
 unfold cD
 split
 ·rename_i k hk
  obtain ⟨h1,h2,_⟩ := List.findIdx?_eq_some_iff_getElem.1 hk
  refine ⟨fun h => by omega,fun h => ?_⟩
  exact absurd (by simpa using h2) (h _ (List.getElem_mem h1))
 ·rename_i hk
  rw [List.findIdx?_eq_none_iff] at hk
  exact ⟨fun _ t ht => by simpa using hk t ht,fun _ => by omega⟩
def fE (stk : List Tg) (k : Nat) (wr : Bool) : List Tg := if wr = true then stk.take (k + 1) else stk.take (k + 1) ++ (stk.drop (k + 1)).filter (fun t => !t.uq)
def a7 (m : List Cl) (x : Pt) (wr : Bool) : Int :=
 if ¬ (0 ≤ x.cell ∧ x.cell < m.length) then 4
 else if m[x.cell.toNat]!.alive = false then 1
 else if cD m[x.cell.toNat]!.stk x.tag < 0 then 2
 else if wr = true ∧ m[x.cell.toNat]!.stk[(cD m[x.cell.toNat]!.stk x.tag).toNat]!.uq = false then 3
 else 0
def iV (c : Cl) (x : Pt) (wr : Bool) : Cl := { c with stk := fE c.stk (cD c.stk x.tag).toNat wr }
def cV (m : List Cl) (x : Pt) (wr : Bool) : List Cl := if a7 m x wr = 0 then m.set x.cell.toNat (iV m[x.cell.toNat]! x wr) else m
def oN (m : List Cl) (x : Pt) : Int := if a7 m x false = 0 then m[x.cell.toNat]!.val else 0
def qU (m : List Cl) (x : Pt) (v : Int) : Int := if 0 ≤ v ∧ v ≤ 9 then a7 m x true else 4
def oQ (m : List Cl) (x : Pt) (v : Int) : List Cl := if qU m x v = 0 then m.set x.cell.toNat { iV m[x.cell.toNat]! x true with val := v } else m
def g8 (m : List Cl) (x : Pt) : List Cl := if a7 m x true = 0 then m.set x.cell.toNat { iV m[x.cell.toNat]! x true with alive := false } else m
def Dj (c : Cl) : Prop := c.stk.length = 200 ∨ c.next = 1000
instance (c : Cl) : Decidable (Dj c) := by unfold Dj;infer_instance
def kV (m : List Cl) (x : Pt) (u : Bool) : Int := if a7 m x u = 0 then (if Dj (iV m[x.cell.toNat]! x u) then 4 else 0) else a7 m x u
def psh (c : Cl) (u : Bool) : Cl := { c with stk := c.stk ++ [⟨c.next,u⟩],next := c.next + 1 }
def jT (m : List Cl) (x : Pt) (u : Bool) : List Cl := if kV m x u = 0 then m.set x.cell.toNat (psh (iV m[x.cell.toNat]! x u) u) else m
def qI (m : List Cl) (x : Pt) (u : Bool) : Pt := if kV m x u = 0 then ⟨x.cell,m[x.cell.toNat]!.next⟩ else ⟨0,0⟩
def oT (v : Int) : Cl := ⟨v,true,1,[⟨0,true⟩]⟩
theorem tchS_sub {stk:List Tg}{k:Nat}{wr:Bool}:(fE stk k wr).Sublist stk:=by
 unfold fE
 split
 ·exact List.take_sublist _ _
 ·have h := List.Sublist.append (List.Sublist.refl (stk.take (k + 1))) (List.filter_sublist (l := stk.drop (k + 1)) (p := fun t => !t.uq))
  rwa [List.take_append_drop] at h
theorem y3 {stk:List Tg}{k:Nat}{wr:Bool}(h:0 < stk.length):(fE stk k wr)[0]! = stk[0]! ∧ 0 < (fE stk k wr).length:=by
 cases stk with
 | nil => simp at h
 | cons a l =>
  unfold fE
  split <;> simp
theorem OkC.tch {c:Cl}(h:OkC c) (x:Pt) (wr:Bool):OkC (iV c x wr):=by
 have hs := tchS_sub (stk := c.stk) (k := (cD c.stk x.tag).toNat) (wr := wr)
 have hh := y3 (k := (cD c.stk x.tag).toNat) (wr := wr) (stk := c.stk) (by have := h.l;omega)
 refine ⟨h.v,h.n,⟨hh.2,Nat.le_trans hs.length_le h.l.2⟩,?_,fun t ht => h.i t (hs.subset ht),(hs.map _).nodup h.d⟩
 show (fE c.stk (cD c.stk x.tag).toNat wr)[0]!.uq = true
 rw [hh.1]; exact h.u
theorem OkC.psh {c:Cl}(h:OkC c) (u:Bool) (hf:¬ Dj c):OkC (psh c u):=by
 have hl := h.l
 have hn := h.n
 unfold Dj at hf
 refine ⟨h.v,by show 1 ≤ c.next + 1 ∧ c.next + 1 ≤ 1000;omega,by show 1 ≤ (c.stk ++ [_]).length ∧ (c.stk ++ [_]).length ≤ 200;rw [List.length_append,List.length_singleton]; omega,?_,fun t ht => ?_,?_⟩
 ·show (c.stk ++ [_])[0]!.uq = true
  have h1 := h.u
  rw [bC _ _ (by omega)] at h1
  rw [bC _ _ (by rw [List.length_append]; omega),List.getElem_append_left (by omega)]; exact h1
 ·rcases List.mem_append.1 ht with ht | ht
  ·have := h.i t ht;show 0 ≤ t.id ∧ t.id < c.next + 1;omega
  ·rw [List.mem_singleton] at ht;subst ht;show 0 ≤ c.next ∧ c.next < c.next + 1;omega
 ·show ((c.stk ++ [_]).map _).Nodup
  rw [List.map_append,List.nodup_append]
  refine ⟨h.d,by simp,fun a ha b hb => ?_⟩
  simp only [List.map_cons,List.map_nil,List.mem_singleton] at hb
  obtain ⟨t,ht,rfl⟩ := List.mem_map.1 ha
  have := h.i t ht
  omega
theorem OkC.nw {v:Int}(h:0 ≤ v ∧ v ≤ 9):OkC (oT v) := ⟨h,⟨by show (1:Int) ≤ 1;decide,by show (1:Int) ≤ 1000;decide⟩,⟨by show 1 ≤ 1;decide,by show 1 ≤ 200;decide⟩,rfl,by simp [oT],by simp [oT]⟩
theorem OkM.set {m:List Cl}(h:OkM m){k:Nat}{c:Cl}(hc:OkC c):OkM (m.set k c) :=
 ⟨by rw [List.length_set]; exact h.l,fun x hx => (List.mem_or_eq_of_mem_set hx).elim (h.c x) (fun e => e ▸ hc)⟩
theorem OkM.at {m:List Cl}(h:OkM m){k:Nat}(hk:k < m.length):OkC m[k]! := h.c _ (aW _ _ hk)
theorem dV {m:List Cl}{x:Pt}{wr:Bool}(h:a7 m x wr ≠ 4):0 ≤ x.cell ∧ x.cell < m.length ∧ x.cell.toNat < m.length:=by
 unfold a7 at h
 split at h
 ·exact absurd rfl h
 ·omega
theorem dU {m:List Cl}{x:Pt}{wr:Bool}(h:a7 m x wr = 0):0 ≤ x.cell ∧ x.cell < m.length ∧ x.cell.toNat < m.length := dV (by rw [h]; decide)
theorem OkM.tch {m:List Cl}(h:OkM m) (x:Pt) (wr:Bool):OkM (cV m x wr):=by
 unfold cV;split
 ·rename_i hk;exact h.set ((h.at (dU hk).2.2).tch x wr)
 ·exact h
theorem OkM.wr {m:List Cl}(h:OkM m) (x:Pt) (v:Int):OkM (oQ m x v):=by
 unfold oQ
 by_cases hk : qU m x v = 0
 ·rw [if_pos hk]
  unfold qU at hk
  by_cases hv : 0 ≤ v ∧ v ≤ 9
  ·rw [if_pos hv] at hk
   have h1 := (h.at (dU hk).2.2).tch x true
   exact h.set ⟨hv,h1.n,h1.l,h1.u,h1.i,h1.d⟩
  ·rw [if_neg hv] at hk;cases hk
 ·rw [if_neg hk]; exact h
theorem OkM.fr {m:List Cl}(h:OkM m) (x:Pt):OkM (g8 m x):=by
 unfold g8;split
 ·rename_i hk
  have h1 := (h.at (dU hk).2.2).tch x true
  exact h.set ⟨h1.v,h1.n,h1.l,h1.u,h1.i,h1.d⟩
 ·exact h
theorem OkM.ln {m:List Cl}(h:OkM m) (x:Pt) (u:Bool):OkM (jT m x u):=by
 unfold jT
 by_cases hk : kV m x u = 0
 ·rw [if_pos hk]
  unfold kV at hk
  by_cases h0 : a7 m x u = 0
  ·rw [if_pos h0] at hk
   by_cases hf : Dj (iV m[x.cell.toNat]! x u)
   ·rw [if_pos hf] at hk;cases hk
   ·exact h.set (((h.at (dU h0).2.2).tch x u).psh u hf)
  ·rw [if_neg h0] at hk;exact absurd hk h0
 ·rw [if_neg hk]; exact h
theorem OkM.nw {m:List Cl}(h:OkM m){v:Int}(hv:0 ≤ v ∧ v ≤ 9) (hl:m.length < 200):OkM (m ++ [oT v]) :=
 ⟨by rw [List.length_append,List.length_singleton]; omega,fun c hc => (List.mem_append.1 hc).elim (h.c c) (fun h => by rw [List.mem_singleton.1 h]; exact OkC.nw hv)⟩
def g7 (pts : List Pnt) (a : Nat) (cs : List Int) : Nat × List Int :=
 if pts[a]!.next.length = 2 then
  match cs with
  | [] => ((pts[a]!.next[1]!).toNat,[])
  | c :: cs => ((pts[a]!.next[(c % 2).toNat]!).toNat,cs)
 else ((pts[a]!.next[0]!).toNat,cs)
def dN (pts : List Pnt) : Nat → Nat → List Int → List Nat × Bool
 | 0,a,_ => if pts[a]!.op = 11 then ([a],true) else ([],false)
 | n + 1,a,cs => if pts[a]!.op = 11 then ([a],true) else (a :: (dN pts n (g7 pts a cs).1 (g7 pts a cs).2).1,(dN pts n (g7 pts a cs).1 (g7 pts a cs).2).2)
structure Mc where
 slots : List Sl
 cells : List Cl
 read : List Int
 deriving Inhabited
def gP : Sl := ⟨false,0,⟨0,0⟩⟩
def eJ (k : Int) : Int := if k = 1 then 3 else 4
def kI (k : Int) : Int := if k = 0 then -1 else eJ k
def bK (ts : List Int) (s : Mc) (v : Nat) (x : Sl) : Mc × Int :=
 if ts[v]! = 2 ∧ s.slots[v]!.set = true then (⟨s.slots.set v x,g8 s.cells s.slots[v]!.ptr,s.read⟩,kI (a7 s.cells s.slots[v]!.ptr true))
 else (⟨s.slots.set v x,s.cells,s.read⟩,-1)
def cE (ts : List Int) (s : Mc) (x : Pnt) : Bool := (List.range ts.length).any fun v => decide (aP ts x v ≠ 0) && !s.slots[v]!.set
def cT (ts : List Int) : Nat → Nat → Mc → Mc × Int
 | 0,_,s => (s,0)
 | n + 1, v, s => if ts[v]! = 2 ∧ s.slots[v]!.set = true then
   (if a7 s.cells s.slots[v]!.ptr true = 0 then cT ts n (v + 1) ⟨s.slots.set v gP,g8 s.cells s.slots[v]!.ptr,s.read⟩ else (⟨s.slots,g8 s.cells s.slots[v]!.ptr,s.read⟩,eJ (a7 s.cells s.slots[v]!.ptr true)))
  else cT ts n (v + 1) s
def bT (ts : List Int) (s : Mc) (x : Pnt) : Mc × Int :=
 if x.op = 1 then bK ts s x.x.toNat ⟨true,x.n,⟨0,0⟩⟩
 else if x.op = 2 then (if s.cells.length = 200 then (s,1) else bK ts ⟨s.slots,s.cells ++ [oT x.n],s.read⟩ x.x.toNat ⟨true,0,⟨s.cells.length,0⟩⟩)
 else if x.op = 3 then bK ts (if xA ts[x.y.toNat]! = true then ⟨s.slots.set x.y.toNat gP,s.cells,s.read⟩ else s) x.x.toNat s.slots[x.y.toNat]!
 else if x.op = 4 ∨ x.op = 5 then
  (if kV s.cells s.slots[x.y.toNat]!.ptr (decide (x.op = 5)) = 0 then bK ts ⟨s.slots, jT s.cells s.slots[x.y.toNat]!.ptr (decide (x.op = 5)), s.read⟩ x.x.toNat ⟨true, 0, qI s.cells s.slots[x.y.toNat]!.ptr (decide (x.op = 5))⟩
   else (s,eJ (kV s.cells s.slots[x.y.toNat]!.ptr (decide (x.op = 5)))))
 else if x.op = 6 then
  (if a7 s.cells s.slots[x.y.toNat]!.ptr false = 0 then bK ts ⟨s.slots, cV s.cells s.slots[x.y.toNat]!.ptr false, s.read ++ [oN s.cells s.slots[x.y.toNat]!.ptr]⟩ x.x.toNat ⟨true, oN s.cells s.slots[x.y.toNat]!.ptr, ⟨0, 0⟩⟩
   else (s,eJ (a7 s.cells s.slots[x.y.toNat]!.ptr false)))
 else if x.op = 7 then (⟨s.slots,oQ s.cells s.slots[x.x.toNat]!.ptr s.slots[x.y.toNat]!.num,s.read⟩,kI (qU s.cells s.slots[x.x.toNat]!.ptr s.slots[x.y.toNat]!.num))
 else if x.op = 8 then (⟨s.slots.set x.x.toNat gP,g8 s.cells s.slots[x.x.toNat]!.ptr,s.read⟩,kI (a7 s.cells s.slots[x.x.toNat]!.ptr true))
 else if x.op = 11 then cT ts ts.length 0 s
 else (s,-1)
def hO (ts : List Int) (pts : List Pnt) : List Nat → Mc → Nat → Mc × Int × Nat
 | [],s,last => (s,1,last)
 | a :: l, s, _ => if cE ts s pts[a]! = true then (s, 2, a)
  else if (bT ts s pts[a]!).2 = -1 then hO ts pts l (bT ts s pts[a]!).1 a
  else ((bT ts s pts[a]!).1,(bT ts s pts[a]!).2,a)
def mc0 (nt : Nat) : Mc := ⟨List.replicate nt gP,[],[]⟩
def dT (ts : List Int) (pts : List Pnt) (cs : List Int) (most : Nat) : Mc × Int × Nat := hO ts pts (dN pts most 0 cs).1 (mc0 ts.length) 0
structure OkS (nt : Nat) (s : Mc) : Prop where
 m : OkM s.cells
 l : s.slots.length = nt
theorem OkS.put {ts:List Int}{nt:Nat}{s:Mc}(h:OkS nt s) (v:Nat) (x:Sl):OkS nt (bK ts s v x).1:=by
 unfold bK;split
 ·exact ⟨h.m.fr _,by show (s.slots.set v x).length = nt;rw [List.length_set]; exact h.l⟩
 ·exact ⟨h.m,by show (s.slots.set v x).length = nt;rw [List.length_set]; exact h.l⟩
theorem OkS.fin {ts:List Int}{nt:Nat}:∀ n v (s:Mc),OkS nt s → OkS nt (cT ts n v s).1
 | 0,_,_,h => h
 | n + 1, v, s, h => by
  unfold cT;split
  ·split
   ·exact OkS.fin n _ _ ⟨h.m.fr _,by show (s.slots.set v gP).length = nt;rw [List.length_set]; exact h.l⟩
   ·exact ⟨h.m.fr _,h.l⟩
  ·exact OkS.fin n _ _ h
structure PtN (x : Pnt) : Prop where
 n : x.op = 2 → 0 ≤ x.n ∧ x.n ≤ 9
theorem OkS.do {ts:List Int}{nt:Nat}{s:Mc}(h:OkS nt s){x:Pnt}(hx:PtN x):OkS nt (bT ts s x).1:=by
 have hl : ∀ (v : Nat) (y : Sl),(s.slots.set v y).length = nt := fun v y => by rw [List.length_set]; exact h.l
 unfold bT
 split
 ·exact h.put _ _
 split
 ·rename_i h2
  split
  ·exact h
  ·rename_i h3
   refine OkS.put ?_ _ _
   exact ⟨h.m.nw (hx.n h2) (by have := h.m.l;omega),h.l⟩
 split
 ·split
  ·refine OkS.put ?_ _ _
   exact ⟨h.m,hl _ _⟩
  ·exact h.put _ _
 split
 ·split
  ·refine OkS.put ?_ _ _
   exact ⟨h.m.ln _ _,h.l⟩
  ·exact h
 split
 ·split
  ·refine OkS.put ?_ _ _
   exact ⟨h.m.tch _ _,h.l⟩
  ·exact h
 split
 ·exact ⟨h.m.wr _ _,h.l⟩
 split
 ·exact ⟨h.m.fr _,hl _ _⟩
 split
 ·exact OkS.fin _ _ _ h
 ·exact h
theorem OkS.mc0 (nt:Nat):OkS nt (mc0 nt) := ⟨⟨by simp [Go.AL.mc0],by simp [Go.AL.mc0]⟩,by simp [Go.AL.mc0]⟩
theorem OkS.run {ts:List Int}{pts:List Pnt}{nt:Nat}(hp:∀ a:Nat,PtN pts[a]!):∀ (l:List Nat) (s:Mc) (last:Nat),OkS nt s → OkS nt (hO ts pts l s last).1
 | [],_,_,h => h
 | a :: l, s, _, h => by
  unfold hO;split
  ·exact h
  ·split
   ·exact OkS.run hp l _ _ (h.do (hp a))
   ·exact h.do (hp a)
theorem Kq (k:Int):kI k = -1 ∨ kI k = 3 ∨ kI k = 4 := by unfold kI eJ;split;exact .inl rfl;split;exact .inr (.inl rfl);exact .inr (.inr rfl)
theorem qV (k:Int):eJ k = 3 ∨ eJ k = 4 := by unfold eJ;split;exact .inl rfl;exact .inr rfl
theorem Nm (ts:List Int) (s:Mc) (v:Nat) (x:Sl):(bK ts s v x).2 = -1 ∨ (bK ts s v x).2 = 3 ∨ (bK ts s v x).2 = 4:=by
 unfold bK;split
 ·exact Kq _
 ·exact .inl rfl
theorem JP {ts:List Int}{s:Mc}{x:Pnt}(h:x.op ≠ 11):(bT ts s x).2 = -1 ∨ (bT ts s x).2 = 1 ∨ (bT ts s x).2 = 3 ∨ (bT ts s x).2 = 4:=by
 have p := fun s v y => Nm ts s v y
 have p' : ∀ s v y, (bK ts s v y).2 = -1 ∨ (bK ts s v y).2 = 1 ∨ (bK ts s v y).2 = 3 ∨ (bK ts s v y).2 = 4 := fun s v y => by
  rcases p s v y with h|h|h
  ·exact .inl h
  ·exact .inr (.inr (.inl h))
  ·exact .inr (.inr (.inr h))
 have g : ∀ k, kI k = -1 ∨ kI k = 1 ∨ kI k = 3 ∨ kI k = 4 := fun k => by
  rcases Kq k with h|h|h
  ·exact .inl h
  ·exact .inr (.inr (.inl h))
  ·exact .inr (.inr (.inr h))
 have e : ∀ k,eJ k = -1 ∨ eJ k = 1 ∨ eJ k = 3 ∨ eJ k = 4 := fun k => .inr (.inr (qV k))
 unfold bT
 rw [if_neg h]
 split
 ·exact p' _ _ _
 split
 ·split
  ·exact .inr (.inl rfl)
  ·exact p' _ _ _
 split
 ·exact p' _ _ _
 split
 ·split
  ·exact p' _ _ _
  ·exact e _
 split
 ·split
  ·exact p' _ _ _
  ·exact e _
 split
 ·exact g _
 split
 ·exact g _
 exact .inl rfl
theorem n6 (ts:List Int):∀ n v (s:Mc),(cT ts n v s).2 = 0 ∨ (cT ts n v s).2 = 3 ∨ (cT ts n v s).2 = 4
 | 0,_,_ => .inl rfl
 | n + 1, v, s => by
  unfold cT;split
  ·split
   ·exact n6 ts n _ _
   ·exact .inr (qV _)
  ·exact n6 ts n _ _
theorem wM {ts:List Int}{s:Mc}{x:Pnt}(h:x.op = 11):bT ts s x = cT ts ts.length 0 s:=by
 unfold bT;simp [h]
theorem Lj (m:List Cl) (x:Pt):(g8 m x).length = m.length := by unfold g8;split <;> simp
theorem mM (m:List Cl) (x:Pt) (b:Bool):(cV m x b).length = m.length := by unfold cV;split <;> simp
theorem Fx (m:List Cl) (x:Pt) (b:Bool):(jT m x b).length = m.length := by unfold jT;split <;> simp
theorem L9 (m:List Cl) (x:Pt) (v:Int):(oQ m x v).length = m.length := by unfold oQ;split <;> simp
structure PtA (ts : List Int) (x : Pnt) : Prop where
 n : x.op = 1 ∨ x.op = 2 → 0 ≤ x.n ∧ x.n ≤ 9
 t1 : x.op = 1 → ts[x.x.toNat]! = 1
 t2 : x.op = 2 ∨ x.op = 8 → ts[x.x.toNat]! = 2
 t3 : x.op = 3 → ts[x.x.toNat]! = ts[x.y.toNat]! ∧ x.x ≠ x.y
 t4 : x.op = 4 → ts[x.x.toNat]! = 3 ∧ x.x ≠ x.y ∧ 2 ≤ ts[x.y.toNat]!
 t5 : x.op = 5 → ts[x.x.toNat]! = 4 ∧ x.x ≠ x.y ∧ (ts[x.y.toNat]! = 2 ∨ ts[x.y.toNat]! = 4)
 t6 : x.op = 6 → ts[x.x.toNat]! = 1 ∧ 2 ≤ ts[x.y.toNat]!
 t7 : x.op = 7 → (ts[x.x.toNat]! = 2 ∨ ts[x.x.toNat]! = 4) ∧ ts[x.y.toNat]! = 1
theorem PtA.no {ts:List Int}{x:Pnt}(h:9 ≤ x.op):PtA ts x := ⟨fun e => by omega,fun e => by omega,fun e => by omega,fun e => by omega,fun e => by omega,fun e => by omega,fun e => by omega,fun e => by omega⟩
theorem DW {ts:List Int}{s:Stmt}(h:dD ts s = true):s.op ≤ 8:=by
 unfold dD at h
 dsimp only at h
 apply Classical.byContradiction
 intro e
 rw [if_neg (by omega),if_neg (by omega)] at h
 split at h
 ·cases h
 ·rw [if_neg (by omega),if_neg (by omega),if_neg (by omega),if_neg (by omega),if_neg (by omega),if_neg (by omega)] at h;cases h
theorem HD {ts:List Int}(s:Stmt) (h:dD ts s = true):PtA ts ⟨s.op,s.x,s.y,s.n,[]⟩:=by
 have g : ∀ v,0 < fU ts v → fU ts v = ts[v.toNat]! := fun v => j6
 have gx := g s.x
 have gy := g s.y
 unfold dD at h
 dsimp only at h
 constructor <;> dsimp only <;> intro e
 case n => rcases e with e|e <;> simp [e] at h <;> omega
 case t1 => simp [e] at h;rw [← gx (by omega)]; omega
 case t2 => rcases e with e|e <;> simp [e] at h <;> (rw [← gx (by omega)]; omega)
 case t3 => simp [e] at h;rw [← gx (by omega),← gy (by omega)]; exact ⟨h.2.1,h.2.2.2⟩
 case t4 => simp [e] at h;rw [← gx (by omega),← gy (by omega)]; exact ⟨h.2.1,h.2.2.2,h.2.2.1⟩
 case t5 => simp [e] at h;rw [← gx (by omega),← gy (by omega)]; exact ⟨h.2.1,h.2.2.2,h.2.2.1⟩
 case t6 => simp [e] at h;rw [← gx (by omega),← gy (by omega)]; exact ⟨h.2.1,h.2.2⟩
 case t7 => simp [e] at h;rw [← gx (by omega),← gy (by omega)]; exact ⟨h.2.1,h.2.2⟩
mutual
theorem Rj {ts:List Int}:∀ (s:Stmt) (d b:Nat),sU ts d s = true → ∀ x ∈ w9 b s,PtA ts x ∧ x.op ≠ 11 ∧ 0 < x.next.length
 | .mk op x y n th el, d, b, h => by
  simp only [sU] at h
  split at h
  ·rename_i hop
   simp only [Bool.and_eq_true] at h
   have hs := HD _ h.2
   have ho := DW h.2
   simp only [Stmt.op,Stmt.x,Stmt.y,Stmt.n] at hs ho
   simp only [w9,hop.1,hop.2,if_false,List.mem_singleton]
   rintro z rfl
   exact ⟨⟨hs.n,hs.t1,hs.t2,hs.t3,hs.t4,hs.t5,hs.t6,hs.t7⟩,by dsimp only;omega,by simp⟩
  ·rename_i hop
   cases d with
   | zero => cases h
   | succ d =>
    simp only [Bool.and_eq_true,decide_eq_true_eq] at h
    obtain ⟨⟨⟨_,_⟩,h1⟩,h2⟩ := h
    by_cases h9 : op = 9
    ·subst h9
     simp only [w9,if_true,List.mem_append,List.mem_singleton]
     rintro z (((rfl|hz)|rfl)|hz)
     ·exact ⟨PtA.no (by simp),by simp,by simp⟩
     ·exact v8 th d (b + 1) h1 z hz
     ·exact ⟨PtA.no (by simp),by simp,by simp⟩
     ·exact v8 el d (b + 2 + dH th) h2 z hz
    ·have h10 : op = 10 := by omega
     subst h10
     simp only [w9,if_true,show ((10 : Int) = 9) = False by simp,if_false,List.mem_append,List.mem_singleton]
     rintro z ((rfl|hz)|rfl)
     ·exact ⟨PtA.no (by simp),by simp,by simp⟩
     ·exact v8 th d (b + 1) h1 z hz
     ·exact ⟨PtA.no (by simp),by simp,by simp⟩
theorem v8 {ts:List Int}:∀ (l:List Stmt) (d b:Nat),okL ts d l = true → ∀ x ∈ gJ b l,PtA ts x ∧ x.op ≠ 11 ∧ 0 < x.next.length
 | [],d,b,h => by simp [gJ]
 | s :: l, d, b, h => by
  simp only [okL,Bool.and_eq_true] at h
  simp only [gJ,List.mem_append]
  rintro x (hx|hx)
  ·exact Rj s d b h.1 x hx
  ·exact v8 l d (b + pC s) h.2 x hx
end
structure WA (ts : List Int) (pts : List Pnt) : Prop where
 a : ∀ i,i < pts.length → PtA ts pts[i]!
 e : ∀ i,i < pts.length → (pts[i]!.op = 11 ↔ i + 1 = pts.length)
 n : ∀ i,i < pts.length → pts[i]!.op ≠ 11 → 0 < pts[i]!.next.length
theorem WA.of_valid {p:Prg}(h:bD p = true):WA p.types (aB p):=by
 unfold bD at h
 simp only [Bool.and_eq_true,decide_eq_true_eq] at h
 obtain ⟨⟨_,hl⟩,_⟩ := h
 have hlen := nE p
 have hpl := b0 p.body 0
 have lo : ∀ i, i + 1 < (aB p).length → (aB p)[i]! ∈ gJ 0 p.body := fun i hi => by
  have h1 : i < (gJ 0 p.body).length := by omega
  unfold aB
  rw [bC _ _ (by rw [List.length_append]; omega),List.getElem_append_left h1]
  exact List.getElem_mem h1
 have hi : ∀ i, i + 1 = (aB p).length → (aB p)[i]! = ⟨11, 0, 0, 0, []⟩ := fun i hi => by
  have h1 : i = (gJ 0 p.body).length := by omega
  unfold aB
  rw [bC _ _ (by rw [List.length_append,List.length_singleton]; omega)]
  simp [h1]
 refine ⟨fun i h => ?_,fun i h => ⟨fun e => ?_,fun e => by rw [hi i e]⟩,fun i h ne => ?_⟩
 ·by_cases q : i + 1 < (aB p).length
  ·exact (v8 p.body 4 0 hl _ (lo i q)).1
  ·rw [hi i (by omega)]; exact PtA.no (by simp)
 ·by_cases q : i + 1 < (aB p).length
  ·exact absurd e (v8 p.body 4 0 hl _ (lo i q)).2.1
  ·omega
 ·by_cases q : i + 1 < (aB p).length
  ·exact (v8 p.body 4 0 hl _ (lo i q)).2.2
  ·exact absurd (by rw [hi i (by omega)]) ne
theorem kL {xs:List Sl}{X:Int}(y:Sl){v:Nat}(hX:0 ≤ X ∧ X < xs.length) (hv:v < xs.length):(xs.set X.toNat y)[v]! = if X = (v:Int) then y else xs[v]!:=by
 rw [aQ]
 by_cases h : X = (v : Int)
 ·rw [if_pos h,if_pos ⟨by omega,hv⟩]
 ·rw [if_neg h,if_neg (by omega)]
theorem eR (ts:List Int) (s:Mc) (v:Nat) (x:Sl):(bK ts s v x).1.slots = s.slots.set v x:=by
 unfold bK;split <;> rfl
theorem iI {ts:List Int}{s:Mc}{x:Pnt}(h:cE ts s x = false){v:Nat}(hv:v < ts.length) (hu:aP ts x v ≠ 0):s.slots[v]!.set = true:=by
 unfold cE at h
 rw [List.any_eq_false] at h
 have h1 := h v (List.mem_range.2 hv)
 rw [decide_eq_true hu,Bool.true_and] at h1
 simpa using h1
theorem w7 {t:Int}:xA t = true ↔ t = 2 ∨ t = 4 := by unfold xA;simp
theorem HU {ts:List Int}{s:Mc}{x:Pnt}(hl:s.slots.length = ts.length) (hu:cE ts s x = false) (A:PtA ts x) (hop:1 ≤ x.op ∧ x.op ≠ 11) (hx:x.op ≤ 8 → 0 ≤ x.x ∧ x.x < ts.length) (hy:3 ≤ x.op → x.op ≤ 7 → 0 ≤ x.y ∧ x.y < ts.length) (hgo:(bT ts s x).2 = -1) :
  ∃ y : Sl,y.set = true ∧ ∀ v,v < ts.length → (bT ts s x).1.slots[v]! = if aM x = (v : Int) then y else if aP ts x v = 2 then gP else s.slots[v]! := by
 have hk : ∀ k,eJ k ≠ -1 := fun k => by rcases qV k with h|h <;> rw [h] <;> decide
 unfold bT at hgo ⊢
 by_cases h1 : x.op = 1
 ·rw [if_pos h1]
  have hxb := hx (by omega)
  refine ⟨⟨true,x.n,⟨0,0⟩⟩,rfl,fun v hv => ?_⟩
  rw [eR,kL _ (by omega) (by omega)]
  have e1 : aM x = x.x := by unfold aM;rw [if_pos (by omega)]
  have e2 : aP ts x v = 0 := by unfold aP;rw [if_neg (by omega),if_neg (by omega),if_neg (by omega),if_neg (by omega)]
  rw [e1,e2]; simp
 rw [if_neg h1] at hgo ⊢
 by_cases h2 : x.op = 2
 ·rw [if_pos h2] at hgo ⊢
  have hxb := hx (by omega)
  by_cases h200 : s.cells.length = 200
  ·rw [if_pos h200] at hgo;cases hgo
  ·rw [if_neg h200]
   refine ⟨⟨true,0,⟨s.cells.length,0⟩⟩,rfl,fun v hv => ?_⟩
   rw [eR]
   dsimp only
   rw [kL _ (by omega) (by omega)]
   have e1 : aM x = x.x := by unfold aM;rw [if_pos (by omega)]
   have e2 : aP ts x v = 0 := by unfold aP;rw [if_neg (by omega),if_neg (by omega),if_neg (by omega),if_neg (by omega)]
   rw [e1,e2]; simp
 rw [if_neg h2] at hgo ⊢
 by_cases h3 : x.op = 3
 ·rw [if_pos h3]
  have hxb := hx (by omega)
  have hyb := hy (by omega) (by omega)
  have hne := (A.t3 h3).2
  have e1 : aM x = x.x := by unfold aM;rw [if_pos (by omega)]
  have hyn : ((x.y.toNat : Nat) : Int) = x.y := by omega
  have hys : s.slots[x.y.toNat]!.set = true := iI hu (v := x.y.toNat) (by omega) (by
   unfold aP;rw [if_pos h3,if_pos hyn]; split <;> decide)
  refine ⟨s.slots[x.y.toNat]!,hys,fun v hv => ?_⟩
  rw [eR]
  have e2 : aP ts x v = if (v : Int) = x.y then (if ts[x.y.toNat]! = 2 ∨ ts[x.y.toNat]! = 4 then 2 else 1) else 0 := by
   unfold aP;rw [if_pos h3]
   by_cases q : (v : Int) = x.y
   ·rw [if_pos q,if_pos q,q]
   ·rw [if_neg q,if_neg q]
  rw [e1,e2]
  by_cases ht : xA ts[x.y.toNat]! = true
  ·rw [if_pos ht]
   dsimp only
   rw [kL _ (by rw [List.length_set]; omega) (by rw [List.length_set]; omega),kL _ (by omega) (by omega),if_pos (w7.1 ht)]
   by_cases q : x.x = (v : Int)
   ·rw [if_pos q,if_pos q]
   ·rw [if_neg q, if_neg q]
    by_cases q2 : x.y = (v : Int)
    ·rw [if_pos q2,if_pos q2.symm,if_pos rfl]
    ·have q3 : ¬ ((v : Int) = x.y) := fun h => q2 h.symm
     rw [if_neg q2,if_neg q3,if_neg (by decide : ¬ (0 : Int) = 2)]
  ·rw [if_neg ht, kL _ (by omega) (by omega), if_neg (fun h => ht (w7.2 h))]
   by_cases q : x.x = (v : Int)
   ·rw [if_pos q,if_pos q]
   ·rw [if_neg q, if_neg q]
    by_cases q2 : (v : Int) = x.y
    ·rw [if_pos q2,if_neg (by decide)]
    ·rw [if_neg q2,if_neg (by decide)]
 rw [if_neg h3] at hgo ⊢
 by_cases h4 : x.op = 4 ∨ x.op = 5
 ·rw [if_pos h4] at hgo ⊢
  have hxb := hx (by omega)
  split at hgo
  ·rename_i hz
   rw [if_pos hz]
   refine ⟨⟨true,0,qI s.cells s.slots[x.y.toNat]!.ptr (decide (x.op = 5))⟩,rfl,fun v hv => ?_⟩
   rw [eR]
   dsimp only
   rw [kL _ (by omega) (by omega)]
   have e1 : aM x = x.x := by unfold aM;rw [if_pos (by omega)]
   have e2 : aP ts x v ≠ 2 := by unfold aP;rw [if_neg (by omega),if_pos (by omega)]; split <;> decide
   rw [e1,if_neg e2]
  ·exact absurd hgo (hk _)
 rw [if_neg h4] at hgo ⊢
 by_cases h6 : x.op = 6
 ·rw [if_pos h6] at hgo ⊢
  have hxb := hx (by omega)
  split at hgo
  ·rename_i hz
   rw [if_pos hz]
   refine ⟨⟨true,oN s.cells s.slots[x.y.toNat]!.ptr,⟨0,0⟩⟩,rfl,fun v hv => ?_⟩
   rw [eR]
   dsimp only
   rw [kL _ (by omega) (by omega)]
   have e1 : aM x = x.x := by unfold aM;rw [if_pos (by omega)]
   have e2 : aP ts x v ≠ 2 := by unfold aP;rw [if_neg (by omega),if_pos (by omega)]; split <;> decide
   rw [e1,if_neg e2]
  ·exact absurd hgo (hk _)
 rw [if_neg h6] at hgo ⊢
 have e1 : aM x = -1 := by unfold aM;rw [if_neg (by omega)]
 have e3 : ∀ v : Nat,aM x ≠ (v : Int) := fun v => by rw [e1]; omega
 by_cases h7 : x.op = 7
 ·rw [if_pos h7]
  refine ⟨⟨true,0,⟨0,0⟩⟩,rfl,fun v hv => ?_⟩
  have e2 : aP ts x v ≠ 2 := by unfold aP;rw [if_neg (by omega),if_neg (by omega),if_pos h7]; split;decide;split <;> decide
  rw [if_neg (e3 v),if_neg e2]
 rw [if_neg h7]
 by_cases h8 : x.op = 8
 ·rw [if_pos h8]
  have hxb := hx (by omega)
  refine ⟨⟨true,0,⟨0,0⟩⟩,rfl,fun v hv => ?_⟩
  dsimp only
  rw [if_neg (e3 v),kL _ (by omega) (by omega)]
  have e2 : aP ts x v = if (v : Int) = x.x then 2 else 0 := by unfold aP;rw [if_neg (by omega),if_neg (by omega),if_neg (by omega),if_pos h8]
  rw [e2]
  by_cases q : x.x = (v : Int)
  ·rw [if_pos q,if_pos q.symm,if_pos rfl]
  ·have q3 : ¬ ((v : Int) = x.x) := fun h => q h.symm
   rw [if_neg q,if_neg q3,if_neg (by decide : ¬ (0 : Int) = 2)]
 ·rw [if_neg h8, if_neg hop.2]
  refine ⟨⟨true,0,⟨0,0⟩⟩,rfl,fun v hv => ?_⟩
  have e2 : aP ts x v ≠ 2 := by unfold aP;rw [if_neg (by omega),if_neg (by omega),if_neg (by omega),if_neg (by omega)]; decide
  rw [if_neg (e3 v),if_neg e2]
section
variable {ts : List Int} {pts : List Pnt}
theorem WG.doS (w:WG ts pts) (A:WA ts pts){a:Nat}(ha:a < pts.length){s:Mc}(hl:s.slots.length = ts.length) (hu:cE ts s pts[a]! = false) (h11:pts[a]!.op ≠ 11) (hgo:(bT ts s pts[a]!).2 = -1) :
  ∃ y : Sl,y.set = true ∧ ∀ v,v < ts.length → (bT ts s pts[a]!).1.slots[v]! = if aM pts[a]! = (v : Int) then y else if aP ts pts[a]! v = 2 then gP else s.slots[v]! :=
 HU hl hu (A.a a ha) ⟨(w.op a ha).1,h11⟩ (fun h => ⟨(w.x a ha).1,(w.x a ha).2 h⟩) (fun h1 h2 => ⟨(w.y a ha).1,(w.y a ha).2 h1 h2⟩) hgo
theorem wE (w:WG ts pts) (A:WA ts pts){a:Nat}(ha:a < pts.length) (h11:pts[a]!.op ≠ 11) (cs:List Int):cY pts a (g7 pts a cs).1:=by
 have key : ∀ j : Nat, j < pts[a]!.next.length → cY pts a (pts[a]!.next[j]!).toNat := fun j hj => by
  have hm := aW pts[a]!.next j hj
  refine ⟨ha,?_⟩
  rw [show (((pts[a]!.next[j]!).toNat : Nat) : Int) = pts[a]!.next[j]! by have := (w.nx a ha _ hm).1;omega]
  exact hm
 have h0 := A.n a ha h11
 unfold g7
 split
 ·rename_i h2
  split
  ·exact key 1 (by omega)
  ·rename_i c cs
   exact key _ (by omega)
 ·exact key 0 h0
def ND (ts : List Int) (pts : List Pnt) (I : Nat → Mc → Prop) (r : Mc × Int × Nat) : Prop := r.2.1 = 1 ∨ ∃ s',r.2.2 < pts.length ∧ I r.2.2 s' ∧
 ((r.2.1 = 2 ∧ cE ts s' pts[r.2.2]! = true ∧ r.1 = s') ∨
  (cE ts s' pts[r.2.2]! = false ∧ (bT ts s' pts[r.2.2]!).2 ≠ -1 ∧ r.1 = (bT ts s' pts[r.2.2]!).1 ∧ r.2.1 = (bT ts s' pts[r.2.2]!).2))
theorem Ay {I:Nat → Mc → Prop}{a:Nat}{l:List Nat}{s:Mc}{last:Nat}(ha:a < pts.length) (hs:I a s)
  (hrec : cE ts s pts[a]! = false → (bT ts s pts[a]!).2 = -1 → ND ts pts I (hO ts pts l (bT ts s pts[a]!).1 a)) : ND ts pts I (hO ts pts (a :: l) s last) := by
 by_cases h1 : cE ts s pts[a]! = true
 ·have e : hO ts pts (a :: l) s last = (s, 2, a) := by unfold hO; rw [if_pos h1]
  rw [e]; exact .inr ⟨s,ha,hs,.inl ⟨rfl,h1,rfl⟩⟩
 ·have h1' : cE ts s pts[a]! = false := by simpa using h1
  by_cases h2 : (bT ts s pts[a]!).2 = -1
  ·have e : hO ts pts (a :: l) s last = hO ts pts l (bT ts s pts[a]!).1 a := by
    conv => lhs;unfold hO
    rw [if_neg h1,if_pos h2]
   rw [e]; exact hrec h1' h2
  ·have e : hO ts pts (a :: l) s last = ((bT ts s pts[a]!).1, (bT ts s pts[a]!).2, a) := by
    unfold hO;rw [if_neg h1,if_neg h2]
   rw [e]; exact .inr ⟨s,ha,hs,.inr ⟨h1',h2,rfl,rfl⟩⟩
theorem qH {I:Nat → Mc → Prop}{a:Nat}{s:Mc}{last:Nat}(ha:a < pts.length) (hs:I a s) (h11:pts[a]!.op = 11):ND ts pts I (hO ts pts [a] s last) :=
 Ay ha hs fun h1 h2 => by
  rw [wM h11] at h2
  rcases n6 ts ts.length 0 s with q|q|q <;> (rw [q] at h2;cases h2)
theorem Fh (w:WG ts pts) (A:WA ts pts) (I:Nat → Mc → Prop)
  (hI : ∀ a s k,a < pts.length → pts[a]!.op ≠ 11 → cY pts a k → I a s → cE ts s pts[a]! = false → (bT ts s pts[a]!).2 = -1 → I k (bT ts s pts[a]!).1) :
  ∀ n a cs s last,a < pts.length → I a s → ND ts pts I (hO ts pts (dN pts n a cs).1 s last) := by
 intro n
 induction n with
 | zero =>
  intro a cs s last ha hs
  by_cases h11 : pts[a]!.op = 11
  ·have e : (dN pts 0 a cs).1 = [a] := by unfold dN; rw [if_pos h11]
   rw [e]; exact qH ha hs h11
  ·have e : (dN pts 0 a cs).1 = [] := by rw [dN, if_neg h11]
   rw [e]; exact .inl rfl
 | succ n ih =>
  intro a cs s last ha hs
  by_cases h11 : pts[a]!.op = 11
  ·have e : (dN pts (n + 1) a cs).1 = [a] := by unfold dN; rw [if_pos h11]
   rw [e]; exact qH ha hs h11
  ·have e : (dN pts (n + 1) a cs).1 = a :: (dN pts n (g7 pts a cs).1 (g7 pts a cs).2).1 := by rw [dN, if_neg h11]
   have he := wE w A ha h11 cs
   rw [e]
   exact Ay ha hs fun h1 h2 => ih _ _ _ _ (c9 w he) (hI a s _ ha h11 he hs h1 h2)
end
section
variable {ts : List Int} {pts : List Pnt}
structure Vs (ts : List Int) (pts : List Pnt) (a : Nat) (s : Mc) : Prop where
 l : s.slots.length = ts.length
 u : ∀ v,v < ts.length → s.slots[v]!.set = false → Na ts pts (a,v)
 m : ∀ v,v < ts.length → s.slots[v]!.set = true → Mb ts pts (a,v)
theorem p8 (ts:List Int) (s:Mc) (v:Nat) (x:Sl):(bK ts s v x).1.slots.length = s.slots.length := by rw [eR,List.length_set]
theorem zR (ts:List Int):∀ n v (s:Mc),(cT ts n v s).1.slots.length = s.slots.length
 | 0,_,_ => rfl
 | n + 1, v, s => by
  unfold cT;split
  ·split
   ·rw [zR ts n]; exact List.length_set
   ·rfl
  ·exact zR ts n _ _
theorem N9 (ts:List Int) (s:Mc) (x:Pnt):(bT ts s x).1.slots.length = s.slots.length:=by
 unfold bT
 split
 ·exact p8 _ _ _ _
 split
 ·split
  ·rfl
  ·exact p8 _ _ _ _
 split
 ·rw [p8]; split
  ·exact List.length_set
  ·rfl
 split
 ·split
  ·exact p8 _ _ _ _
  ·rfl
 split
 ·split
  ·exact p8 _ _ _ _
  ·rfl
 split
 ·rfl
 split
 ·exact List.length_set
 split
 ·exact zR _ _ _ _
 ·rfl
theorem Vs.start:Vs ts pts 0 (mc0 ts.length):=by
 refine ⟨by simp [mc0],fun v hv _ => .base ⟨hv,.inl rfl⟩,fun v hv h => ?_⟩
 have e : (mc0 ts.length).slots[v]! = gP := by
  show (List.replicate ts.length gP)[v]! = gP
  rw [bC _ _ (by simpa using hv)]; simp
 rw [e] at h;cases h
theorem Vs.step (w:WG ts pts) (A:WA ts pts) (a:Nat) (s:Mc) (k:Nat) (ha:a < pts.length) (h11:pts[a]!.op ≠ 11) (he:cY pts a k) (h:Vs ts pts a s) (hu:cE ts s pts[a]! = false) (hgo:(bT ts s pts[a]!).2 = -1):Vs ts pts k (bT ts s pts[a]!).1:=by
 obtain ⟨y,hy,hs⟩ := w.doS A ha h.l hu h11 hgo
 refine ⟨by rw [N9]; exact h.l,fun v hv hf => ?_,fun v hv ht => ?_⟩
 ·rw [hs v hv] at hf
  by_cases h1 : aM pts[a]! = (v : Int)
  ·rw [if_pos h1,hy] at hf;cases hf
  ·rw [if_neg h1] at hf
   by_cases h2 : aP ts pts[a]! v = 2
   ·exact .base ⟨hv,.inr ⟨a,he,h2,h1⟩⟩
   ·rw [if_neg h2] at hf
    exact .step (a := (a,v)) (h.u v hv hf) ⟨rfl,he,h1⟩
 ·rw [hs v hv] at ht
  by_cases h1 : aM pts[a]! = (v : Int)
  ·exact .base ⟨a,he,h1⟩
  ·rw [if_neg h1] at ht
   by_cases h2 : aP ts pts[a]! v = 2
   ·rw [if_pos h2] at ht;cases ht
   ·rw [if_neg h2] at ht
    exact .step (a := (a,v)) (h.m v hv ht) ⟨rfl,he,h2⟩
theorem wU {s:Mc}{x:Pnt}(h:cE ts s x = true):∃ v,v < ts.length ∧ aP ts x v ≠ 0 ∧ s.slots[v]!.set = false:=by
 unfold cE at h
 obtain ⟨v,hv,h2⟩ := List.any_eq_true.1 h
 rw [Bool.and_eq_true,decide_eq_true_eq] at h2
 exact ⟨v,List.mem_range.1 hv,h2.1,by simpa using h2.2⟩
end
theorem oS {α:Type}[Inhabited α] {l r:List α}{c:Nat}(h:c < l.length):(l ++ r)[c]! = l[c]!:=by
 rw [bC _ _ (by rw [List.length_append]; omega),bC _ _ h,List.getElem_append_left h]
theorem HQ {α:Type}[Inhabited α] {l:List α}{x:α}:(l ++ [x])[l.length]! = x:=by
 rw [bC _ _ (by rw [List.length_append,List.length_singleton]; omega)]; simp
theorem Oj {stk:List Tg}(hl:0 < stk.length) (h:stk[0]! = ⟨0,true⟩):cD stk 0 = 0:=by
 cases stk with
 | nil => simp at hl
 | cons t l =>
  have ht : t = ⟨0,true⟩ := h
  subst ht
  unfold cD
  rw [List.findIdx?_cons]
  simp
def Hd (m : List Cl) : Prop := ∀ c,c < m.length → m[c]!.stk[0]! = ⟨0,true⟩
theorem H8 {m:List Cl}(h:OkM m) (hh:Hd m){x:Pt}(hx:0 ≤ x.cell ∧ x.cell < m.length) (ht:x.tag = 0) (ha:m[x.cell.toNat]!.alive = true) (wr:Bool):a7 m x wr = 0:=by
 have hc := h.at (k := x.cell.toNat) (by omega)
 have hs := hh x.cell.toNat (by omega)
 have h0 := Oj (by have := hc.l;omega) hs
 unfold a7
 rw [if_neg (fun q => q hx),if_neg (by rw [ha]; decide),ht,h0,if_neg (by decide),if_neg]
 rintro ⟨_,h2⟩
 have e : m[x.cell.toNat]!.stk[(0 : Int).toNat]! = m[x.cell.toNat]!.stk[0]! := rfl
 rw [e,hs] at h2;cases h2
theorem Ae {m:List Cl}(hh:Hd m){k:Nat}{c:Cl}(hc:c.stk[0]! = ⟨0,true⟩):Hd (m.set k c) := fun j hj => by
 rw [List.length_set] at hj
 rw [aQ]
 split
 ·exact hc
 ·exact hh j hj
theorem uB {m:List Cl}(h:OkM m) (hh:Hd m){k:Nat}(hk:k < m.length) (x:Pt) (wr:Bool):(iV m[k]! x wr).stk[0]! = ⟨0,true⟩:=by
 have hl := (h.at hk).l
 show (fE m[k]!.stk _ wr)[0]! = _
 rw [(y3 (by omega)).1]; exact hh k hk
theorem Hd.tch {m:List Cl}(h:OkM m) (hh:Hd m) (x:Pt) (wr:Bool):Hd (cV m x wr):=by
 unfold cV;split
 ·rename_i hk;exact Ae hh (uB h hh (dU hk).2.2 x wr)
 ·exact hh
theorem Hd.fr {m:List Cl}(h:OkM m) (hh:Hd m) (x:Pt):Hd (g8 m x):=by
 unfold g8;split
 ·rename_i hk;exact Ae hh (uB h hh (dU hk).2.2 x true)
 ·exact hh
theorem Hd.wr {m:List Cl}(h:OkM m) (hh:Hd m) (x:Pt) (v:Int):Hd (oQ m x v):=by
 unfold oQ
 by_cases hk : qU m x v = 0
 ·rw [if_pos hk]
  unfold qU at hk
  by_cases hv : 0 ≤ v ∧ v ≤ 9
  ·rw [if_pos hv] at hk;exact Ae hh (uB h hh (dU hk).2.2 x true)
  ·rw [if_neg hv] at hk;cases hk
 ·rw [if_neg hk]; exact hh
theorem mB {m:List Cl}{x:Pt}{u:Bool}(h:kV m x u = 0):a7 m x u = 0:=by
 unfold kV at h
 by_cases h0 : a7 m x u = 0
 ·exact h0
 ·rw [if_neg h0] at h;exact h
theorem Hd.ln {m:List Cl}(h:OkM m) (hh:Hd m) (x:Pt) (u:Bool):Hd (jT m x u):=by
 unfold jT;split
 ·rename_i hk
  have h0 := dU (mB hk)
  have h1 := uB h hh h0.2.2 x u
  have h2 := ((h.at h0.2.2).tch x u).l
  refine Ae hh ?_
  show ((iV m[x.cell.toNat]! x u).stk ++ [_])[0]! = _
  rw [oS (by omega)]; exact h1
 ·exact hh
theorem Hd.nw {m:List Cl}(hh:Hd m) (v:Int):Hd (m ++ [oT v]) := fun c hc => by
 rw [List.length_append,List.length_singleton] at hc
 by_cases q : c < m.length
 ·rw [oS q]; exact hh c q
 ·have e : c = m.length := by omega
  subst e
  rw [HQ]; rfl
def vA (m : List Cl) (c : Nat) : Bool := m[c]!.alive
theorem tF {m:List Cl}{k c:Nat}{x:Cl}(hc:c < m.length):vA (m.set k x) c = if k = c then x.alive else vA m c:=by
 unfold vA
 rw [aQ]
 by_cases h : k = c
 ·rw [if_pos ⟨h,hc⟩,if_pos h]
 ·rw [if_neg (fun q => h q.1),if_neg h]
theorem Ez (m:List Cl) (x:Pt) (wr:Bool) (c:Nat) (hc:c < m.length):vA (cV m x wr) c = vA m c:=by
 unfold cV;split
 ·rw [tF hc]; split
  ·rename_i e;subst e;rfl
  ·rfl
 ·rfl
theorem IE (m:List Cl) (x:Pt) (u:Bool) (c:Nat) (hc:c < m.length):vA (jT m x u) c = vA m c:=by
 unfold jT;split
 ·rw [tF hc]; split
  ·rename_i e;subst e;rfl
  ·rfl
 ·rfl
theorem P6 (m:List Cl) (x:Pt) (v:Int) (c:Nat) (hc:c < m.length):vA (oQ m x v) c = vA m c:=by
 unfold oQ;split
 ·rw [tF hc]; split
  ·rename_i e;subst e;rfl
  ·rfl
 ·rfl
theorem D0 {m:List Cl}{x:Pt}(hk:a7 m x true = 0) (c:Nat) (hc:c < m.length):vA (g8 m x) c = if x.cell = (c:Int) then false else vA m c:=by
 have h0 := dU hk
 unfold g8
 rw [if_pos hk,tF hc]
 by_cases q : x.cell = (c : Int)
 ·rw [if_pos q,if_pos (by omega)]
 ·rw [if_neg q,if_neg (by omega)]
structure Own (ts : List Int) (s : Mc) (X : Option Nat) : Prop where
 k : OkS ts.length s
 h : Hd s.cells
 o : ∀ v,v < ts.length → ts[v]! = 2 → s.slots[v]!.set = true → 0 ≤ s.slots[v]!.ptr.cell ∧ s.slots[v]!.ptr.cell < s.cells.length ∧ s.slots[v]!.ptr.tag = 0 ∧ vA s.cells s.slots[v]!.ptr.cell.toNat = true
 d : ∀ v u,v < ts.length → u < ts.length → ts[v]! = 2 → ts[u]! = 2 → s.slots[v]!.set = true → s.slots[u]!.set = true → s.slots[v]!.ptr.cell = s.slots[u]!.ptr.cell → v = u
 a : ∀ c,c < s.cells.length → vA s.cells c = true → X = some c ∨ ∃ v,v < ts.length ∧ ts[v]! = 2 ∧ s.slots[v]!.set = true ∧ s.slots[v]!.ptr.cell = (c : Int)
 x : ∀ c,X = some c → c < s.cells.length ∧ vA s.cells c = true ∧ ∀ v,v < ts.length → ts[v]! = 2 → s.slots[v]!.set = true → s.slots[v]!.ptr.cell ≠ (c : Int)
theorem Own.k0 {ts:List Int}{s:Mc}{X:Option Nat}(w:Own ts s X){v:Nat}(hv:v < ts.length) (h2:ts[v]! = 2) (hs:s.slots[v]!.set = true) (wr:Bool):a7 s.cells s.slots[v]!.ptr wr = 0:=by
 obtain ⟨h1,h3,h4,h5⟩ := w.o v hv h2 hs
 exact H8 w.k.m w.h ⟨h1,h3⟩ h4 h5 wr
theorem Own.cells {ts:List Int}{s:Mc}{X:Option Nat}(w:Own ts s X){m:List Cl}(hm:OkM m) (hh:Hd m) (hl:m.length = s.cells.length) (ha:∀ c,c < s.cells.length → vA m c = vA s.cells c) (r:List Int):Own ts ⟨s.slots,m,r⟩ X:=by
 refine ⟨⟨hm,w.k.l⟩,hh,fun v hv h2 hs => ?_,w.d,fun c hc h => ?_,fun c hc => ?_⟩
 ·obtain ⟨h1, h3, h4, h5⟩ := w.o v hv h2 hs
  exact ⟨h1,by show _ < (m.length : Int);rw [hl]; exact h3,h4,by show vA m _ = true;rw [ha _ (show s.slots[v]!.ptr.cell.toNat < s.cells.length by omega)]; exact h5⟩
 ·have hc' : c < m.length := hc
  exact w.a c (by omega) (by rw [← ha c (by omega)]; exact h)
 ·obtain ⟨h1, h3, h4⟩ := w.x c hc
  exact ⟨by show c < m.length;omega,by show vA m c = true;rw [ha c h1]; exact h3,h4⟩
theorem Own.put0 {ts:List Int}{s:Mc}{X:Option Nat}(w:Own ts s X){v:Nat}(h2:ts[v]! ≠ 2) (y:Sl):Own ts (bK ts s v y).1 X ∧ (bK ts s v y).2 = -1:=by
 have hl : (s.slots.set v y).length = ts.length := by rw [List.length_set]; exact w.k.l
 have e : ∀ u : Nat, ts[u]! = 2 → (s.slots.set v y)[u]! = s.slots[u]! := fun u hu => by
  rw [aQ,if_neg]; rintro ⟨q,_⟩; rw [q] at h2;exact h2 hu
 unfold bK
 rw [if_neg (fun h => h2 h.1)]
 refine ⟨⟨⟨w.k.m,hl⟩,w.h,fun u hu h hs => ?_,fun u u' hu hu' h h' hs hs' hc => ?_,fun c hc h => ?_,fun c hc => ?_⟩,rfl⟩
 ·dsimp only at hs ⊢; rw [e u h] at hs ⊢; exact w.o u hu h hs
 ·dsimp only at hs hs' hc;rw [e u h] at hs hc;rw [e u' h'] at hs' hc;exact w.d u u' hu hu' h h' hs hs' hc
 ·rcases w.a c hc h with q | ⟨u, q1, q2, q3, q4⟩
  ·exact .inl q
  ·exact .inr ⟨u,q1,q2,by dsimp only;rw [e u q2]; exact q3,by dsimp only;rw [e u q2]; exact q4⟩
 ·obtain ⟨h1, h3, h4⟩ := w.x c hc
  exact ⟨h1,h3,fun u q1 q2 q3 => by dsimp only at q3 ⊢; rw [e u q2] at q3 ⊢; exact h4 u q1 q2 q3⟩
theorem Own.free {ts:List Int}{s:Mc}{X:Option Nat}(w:Own ts s X){v:Nat}(hv:v < ts.length) (h2:ts[v]! = 2) (hs:s.slots[v]!.set = true) (y:Sl) (hy:y.set = false) (r:List Int) :
  Own ts ⟨s.slots.set v y,g8 s.cells s.slots[v]!.ptr,r⟩ X := by
 have hk := w.k0 hv h2 hs true
 have hlen := Lj s.cells s.slots[v]!.ptr
 have hl : (s.slots.set v y).length = ts.length := by rw [List.length_set]; exact w.k.l
 have e : ∀ u : Nat, u ≠ v → (s.slots.set v y)[u]! = s.slots[u]! := fun u hu => by
  rw [aQ,if_neg]; rintro ⟨q,_⟩; exact hu q.symm
 have ev : (s.slots.set v y)[v]! = y := by rw [aQ,if_pos ⟨rfl,by rw [w.k.l]; exact hv⟩]
 have nev : ∀ u : Nat,(s.slots.set v y)[u]!.set = true → u ≠ v := fun u h q => by rw [q,ev,hy] at h;cases h
 obtain ⟨b1,b2,b3,b4⟩ := w.o v hv h2 hs
 refine ⟨⟨w.k.m.fr _,hl⟩,w.h.fr w.k.m _,fun u hu h hs' => ?_,fun u u' hu hu' h h' q q' hc => ?_,fun c hc h => ?_,fun c hc => ?_⟩
 ·have hne := nev u hs'
  dsimp only at hs' ⊢
  rw [e u hne] at hs' ⊢
  obtain ⟨c1,c2,c3,c4⟩ := w.o u hu h hs'
  refine ⟨c1,by rw [hlen]; exact c2,c3,?_⟩
  rw [D0 hk _ (by omega),if_neg]
  ·exact c4
  ·intro q;exact hne (w.d u v hu hv h h2 hs' hs (by omega))
 ·have n1 := nev u q
  have n2 := nev u' q'
  dsimp only at q q' hc
  rw [e u n1] at q hc;rw [e u' n2] at q' hc
  exact w.d u u' hu hu' h h' q q' hc
 ·dsimp only at hc h
  rw [hlen] at hc
  rw [D0 hk c hc] at h
  by_cases q : s.slots[v]!.ptr.cell = (c : Int)
  ·rw [if_pos q] at h;cases h
  ·rw [if_neg q] at h
   rcases w.a c hc h with q2 | ⟨u,q1,q2,q3,q4⟩
   ·exact .inl q2
   ·have hne : u ≠ v := fun e' => q (by rw [← e']; exact q4)
    exact .inr ⟨u,q1,q2,by dsimp only;rw [e u hne]; exact q3,by dsimp only;rw [e u hne]; exact q4⟩
 ·obtain ⟨h1, h3, h4⟩ := w.x c hc
  refine ⟨by dsimp only;rw [hlen]; exact h1,?_,fun u q1 q2 q3 => ?_⟩
  ·dsimp only;rw [D0 hk c h1,if_neg (h4 v hv h2 hs)]; exact h3
  ·have hne := nev u q3
   dsimp only at q3 ⊢
   rw [e u hne] at q3 ⊢
   exact h4 u q1 q2 q3
theorem Own.take {ts:List Int}{s:Mc}{c:Nat}(w:Own ts s (some c)){v:Nat}(hv:v < ts.length) (h2:ts[v]! = 2) (hs:s.slots[v]!.set = false) (y:Sl) (hy:y.set = true) (hp:y.ptr = ⟨c,0⟩):Own ts ⟨s.slots.set v y,s.cells,s.read⟩ none:=by
 have hl : (s.slots.set v y).length = ts.length := by rw [List.length_set]; exact w.k.l
 have e : ∀ u : Nat, u ≠ v → (s.slots.set v y)[u]! = s.slots[u]! := fun u hu => by
  rw [aQ,if_neg]; rintro ⟨q,_⟩; exact hu q.symm
 have ev : (s.slots.set v y)[v]! = y := by rw [aQ,if_pos ⟨rfl,by rw [w.k.l]; exact hv⟩]
 obtain ⟨x1,x2,x3⟩ := w.x c rfl
 refine ⟨⟨w.k.m,hl⟩,w.h,fun u hu h hs' => ?_,fun u u' hu hu' h h' q q' hc => ?_,fun c' hc h => ?_,fun c' hc => by cases hc⟩
 ·by_cases q : u = v
  ·subst q; dsimp only; rw [ev, hp]
   exact ⟨by dsimp only;omega,by dsimp only;omega,rfl,by simpa using x2⟩
  ·dsimp only at hs' ⊢; rw [e u q] at hs' ⊢; exact w.o u hu h hs'
 ·dsimp only at q q' hc
  by_cases n1 : u = v
  ·by_cases n2 : u' = v
   ·rw [n1,n2]
   ·exfalso;rw [n1,ev,hp,e u' n2] at hc;rw [e u' n2] at q'; exact x3 u' hu' h' q' hc.symm
  ·by_cases n2 : u' = v
   ·exfalso;rw [n2,ev,hp,e u n1] at hc;rw [e u n1] at q;exact x3 u hu h q hc
   ·rw [e u n1] at q hc;rw [e u' n2] at q' hc;exact w.d u u' hu hu' h h' q q' hc
 ·dsimp only at hc h
  rcases w.a c' hc h with q2 | ⟨u,q1,q2,q3,q4⟩
  ·cases q2
   exact .inr ⟨v,hv,h2,by dsimp only;rw [ev]; exact hy,by dsimp only;rw [ev,hp]⟩
  ·have hne : u ≠ v := fun e' => by rw [e', hs] at q3; cases q3
   exact .inr ⟨u,q1,q2,by dsimp only;rw [e u hne]; exact q3,by dsimp only;rw [e u hne]; exact q4⟩
theorem HT {xs:List Sl}(v:Nat) (y z:Sl):(xs.set v y).set v z = xs.set v z := by simp
theorem Own.putB {ts:List Int}{s:Mc}{c:Nat}(w:Own ts s (some c)){v:Nat}(hv:v < ts.length) (h2:ts[v]! = 2) (y:Sl) (hy:y.set = true) (hp:y.ptr = ⟨c,0⟩):Own ts (bK ts s v y).1 none ∧ (bK ts s v y).2 = -1:=by
 unfold bK
 by_cases hs : s.slots[v]!.set = true
 ·rw [if_pos ⟨h2, hs⟩]
  have hk := w.k0 hv h2 hs true
  have w1 := w.free hv h2 hs gP rfl s.read
  have w2 := w1.take hv h2 (by dsimp only;rw [aQ,if_pos ⟨rfl,by rw [w.k.l]; exact hv⟩]; rfl) y hy hp
  dsimp only at w2 ⊢
  rw [HT] at w2
  refine ⟨w2,?_⟩
  unfold kI;rw [if_pos hk]
 ·rw [if_neg (fun h => hs h.2)]
  exact ⟨w.take hv h2 (by simpa using hs) y hy hp,rfl⟩
section
variable {ts : List Int} {s : Mc}
theorem Own.new (w:Own ts s none){n:Int}(hn:0 ≤ n ∧ n ≤ 9) (hl:s.cells.length ≠ 200) (r:List Int):Own ts ⟨s.slots,s.cells ++ [oT n],r⟩ (some s.cells.length):=by
 have hlen : (s.cells ++ [oT n]).length = s.cells.length + 1 := by rw [List.length_append,List.length_singleton]
 have lo : ∀ c, c < s.cells.length → vA (s.cells ++ [oT n]) c = vA s.cells c := fun c hc => by
  unfold vA
  rw [oS hc]
 have hi : vA (s.cells ++ [oT n]) s.cells.length = true := by
  unfold vA;rw [HQ]; rfl
 refine ⟨⟨w.k.m.nw hn (by have := w.k.m.l;omega),w.k.l⟩,w.h.nw n,fun v hv h2 hs => ?_,w.d,fun c hc h => ?_,fun c hc => ?_⟩
 ·obtain ⟨h1, h3, h4, h5⟩ := w.o v hv h2 hs
  exact ⟨h1,by dsimp only;omega,h4,by dsimp only;rw [lo _ (by omega)]; exact h5⟩
 ·dsimp only at hc h
  by_cases q : c < s.cells.length
  ·rw [lo c q] at h
   rcases w.a c q h with q2|q2
   ·cases q2
   ·exact .inr q2
  ·exact .inl (by congr 1;omega)
 ·cases hc
  refine ⟨by dsimp only;omega,hi,fun v hv h2 hs => ?_⟩
  obtain ⟨h1,h3,h4,h5⟩ := w.o v hv h2 hs
  dsimp only;omega
theorem Own.give (w:Own ts s none){v:Nat}(hv:v < ts.length) (h2:ts[v]! = 2) (hs:s.slots[v]!.set = true):Own ts ⟨s.slots.set v gP,s.cells,s.read⟩ (some s.slots[v]!.ptr.cell.toNat):=by
 have hl : (s.slots.set v gP).length = ts.length := by rw [List.length_set]; exact w.k.l
 have e : ∀ u : Nat, u ≠ v → (s.slots.set v gP)[u]! = s.slots[u]! := fun u hu => by
  rw [aQ,if_neg]; rintro ⟨q,_⟩; exact hu q.symm
 have ev : (s.slots.set v gP)[v]! = gP := by rw [aQ,if_pos ⟨rfl,by rw [w.k.l]; exact hv⟩]
 have nev : ∀ u : Nat,(s.slots.set v gP)[u]!.set = true → u ≠ v := fun u h q => by rw [q,ev] at h;cases h
 obtain ⟨b1,b2,b3,b4⟩ := w.o v hv h2 hs
 refine ⟨⟨w.k.m,hl⟩,w.h,fun u hu h hs' => ?_,fun u u' hu hu' h h' q q' hc => ?_,fun c hc h => ?_,fun c hc => ?_⟩
 ·have hne := nev u hs'
  dsimp only at hs' ⊢; rw [e u hne] at hs' ⊢; exact w.o u hu h hs'
 ·have n1 := nev u q
  have n2 := nev u' q'
  dsimp only at q q' hc
  rw [e u n1] at q hc;rw [e u' n2] at q' hc
  exact w.d u u' hu hu' h h' q q' hc
 ·rcases w.a c hc h with q2 | ⟨u, q1, q2, q3, q4⟩
  ·cases q2
  ·by_cases q : u = v
   ·subst q;exact .inl (by congr 1;omega)
   ·exact .inr ⟨u,q1,q2,by dsimp only;rw [e u q]; exact q3,by dsimp only;rw [e u q]; exact q4⟩
 ·cases hc
  refine ⟨by dsimp only;omega,b4,fun u q1 q2 q3 => ?_⟩
  have hne := nev u q3
  dsimp only at q3 ⊢
  rw [e u hne] at q3 ⊢
  intro q;exact hne (w.d u v q1 hv q2 h2 q3 hs (by omega))
theorem Own.clr (w:Own ts s none){v:Nat}(h2:ts[v]! ≠ 2):Own ts ⟨s.slots.set v gP,s.cells,s.read⟩ none:=by
 have h := (w.put0 h2 gP).1
 unfold bK at h
 rwa [if_neg (fun h => h2 h.1)] at h
theorem Own.do (w:Own ts s none){x:Pnt}(A:PtA ts x) (h11:x.op ≠ 11) (hx:x.op ≤ 8 → 0 ≤ x.x ∧ x.x < ts.length) (hop:1 ≤ x.op) (hy:3 ≤ x.op → x.op ≤ 7 → 0 ≤ x.y ∧ x.y < ts.length) (hu:cE ts s x = false):Own ts (bT ts s x).1 none:=by
 unfold bT
 by_cases h1 : x.op = 1
 ·rw [if_pos h1]; exact (w.put0 (by rw [A.t1 h1]; decide) _).1
 rw [if_neg h1]
 by_cases h2 : x.op = 2
 ·rw [if_pos h2]
  split
  ·exact w
  ·rename_i h200
   have hxb := hx (by omega)
   exact ((w.new (A.n (.inr h2)) h200 s.read).putB (v := x.x.toNat) (by omega) (A.t2 (.inl h2)) _ rfl rfl).1
 rw [if_neg h2]
 by_cases h3 : x.op = 3
 ·rw [if_pos h3]
  have hxb := hx (by omega)
  have hyb := hy (by omega) (by omega)
  obtain ⟨ht,hne⟩ := A.t3 h3
  have hyn : ((x.y.toNat : Nat) : Int) = x.y := by omega
  have hys : s.slots[x.y.toNat]!.set = true := iI hu (v := x.y.toNat) (by omega) (by
   unfold aP;rw [if_pos h3,if_pos hyn]; split <;> decide)
  by_cases q2 : ts[x.y.toNat]! = 2
  ·rw [if_pos (w7.2 (.inl q2))]
   have g := w.give (v := x.y.toNat) (by omega) q2 hys
   obtain ⟨b1,b2,b3,b4⟩ := w.o x.y.toNat (by omega) q2 hys
   refine (g.putB (v := x.x.toNat) (by omega) (by rw [ht]; exact q2) _ hys ?_).1
   generalize s.slots[x.y.toNat]! = z at b1 b3
   obtain ⟨zs,zn,zc,zt⟩ := z
   dsimp only at b1 b3 ⊢
   rw [b3,Int.toNat_of_nonneg b1]
  ·split
   ·exact ((w.clr (v := x.y.toNat) q2).put0 (by rw [ht]; exact q2) _).1
   ·exact (w.put0 (by rw [ht]; exact q2) _).1
 rw [if_neg h3]
 by_cases h4 : x.op = 4 ∨ x.op = 5
 ·rw [if_pos h4]
  have hxt : ts[x.x.toNat]! ≠ 2 := by
   rcases h4 with h4|h4
   ·rw [(A.t4 h4).1]; decide
   ·rw [(A.t5 h4).1]; decide
  split
  ·exact ((w.cells (w.k.m.ln _ _) (w.h.ln w.k.m _ _) (Fx _ _ _) (fun c hc => IE _ _ _ c hc) _).put0 hxt _).1
  ·exact w
 rw [if_neg h4]
 by_cases h6 : x.op = 6
 ·rw [if_pos h6]
  have hxt : ts[x.x.toNat]! ≠ 2 := by rw [(A.t6 h6).1]; decide
  split
  ·exact ((w.cells (w.k.m.tch _ _) (w.h.tch w.k.m _ _) (mM _ _ _) (fun c hc => Ez _ _ _ c hc) _).put0 hxt _).1
  ·exact w
 rw [if_neg h6]
 by_cases h7 : x.op = 7
 ·rw [if_pos h7]; exact w.cells (w.k.m.wr _ _) (w.h.wr w.k.m _ _) (L9 _ _ _) (fun c hc => P6 _ _ _ c hc) _
 rw [if_neg h7]
 by_cases h8 : x.op = 8
 ·rw [if_pos h8]
  have hxb := hx (by omega)
  have hxn : ((x.x.toNat : Nat) : Int) = x.x := by omega
  have hxs : s.slots[x.x.toNat]!.set = true := iI hu (v := x.x.toNat) (by omega) (by
   unfold aP;rw [if_neg (by omega),if_neg (by omega),if_neg (by omega),if_pos h8,if_pos hxn]; decide)
  exact w.free (v := x.x.toNat) (by omega) (A.t2 (.inr h8)) hxs gP rfl _
 rw [if_neg h8,if_neg h11]
 exact w
end
theorem Own.fin {ts:List Int}:∀ n v (s:Mc),Own ts s none → v + n = ts.length → (∀ u,u < v → ts[u]! = 2 → s.slots[u]!.set = false) →
  (cT ts n v s).2 = 0 ∧ Own ts (cT ts n v s).1 none ∧ ∀ u,u < ts.length → ts[u]! = 2 → (cT ts n v s).1.slots[u]!.set = false
 | 0,v,s,w,hv,h => ⟨rfl,w,fun u hu h2 => h u (by omega) h2⟩
 | n + 1, v, s, w, hv, h => by
  unfold cT
  by_cases q : ts[v]! = 2 ∧ s.slots[v]!.set = true
  ·rw [if_pos q, if_pos (w.k0 (by omega) q.1 q.2 true)]
   refine Own.fin n (v + 1) _ (w.free (by omega) q.1 q.2 gP rfl _) (by omega) fun u hu h2 => ?_
   dsimp only
   rw [aQ]
   by_cases e : v = u
   ·rw [if_pos ⟨e,by rw [w.k.l]; omega⟩]; rfl
   ·rw [if_neg (fun h => e h.1)]; exact h u (by omega) h2
  ·rw [if_neg q]
   refine Own.fin n (v + 1) s w (by omega) fun u hu h2 => ?_
   by_cases e : u = v
   ·subst e
    cases hs : s.slots[u]!.set with
    | false => rfl
    | true => exact absurd ⟨h2,hs⟩ q
   ·exact h u (by omega) h2
theorem Own.start (ts:List Int):Own ts (mc0 ts.length) none:=by
 have e : ∀ v, v < ts.length → (mc0 ts.length).slots[v]! = gP := fun v hv => by
  show (List.replicate ts.length gP)[v]! = gP
  rw [bC _ _ (by simpa using hv)]; simp
 refine ⟨OkS.mc0 _,fun c hc => ?_,fun v hv _ hs => ?_,fun v u hv _ _ _ hs => ?_,fun c hc => ?_,fun c hc => by cases hc⟩
 ·have : c < ([] : List Cl).length := hc
  simp at this
 ·rw [e v hv] at hs;cases hs
 ·rw [e v hv] at hs;cases hs
 ·have : c < ([] : List Cl).length := hc
  simp at this
theorem vJ (ts:List Int):∀ n v (s:Mc),(cT ts n v s).1.read = s.read
 | 0,_,_ => rfl
 | n + 1, v, s => by
  unfold cT;split
  ·split
   ·exact vJ ts n _ _
   ·rfl
  ·exact vJ ts n _ _
theorem lB (ts:List Int) (s:Mc) (v:Nat) (x:Sl):(bK ts s v x).1.read = s.read := by unfold bK;split <;> rfl
structure Co where
 val : Int
 alive : Bool
 next : Int
 av : AV
instance : Inhabited Co:=⟨⟨0,false,0,.imm 0 []⟩⟩
def fH (c : Co) : List AV := [iv c.val,bv c.alive,iv c.next,c.av]
instance : FlT fH 4:=⟨fun _ => rfl⟩
instance : FE fH (fun c => [iv c.val,bv c.alive,iv c.next,c.av]):=⟨fun _ => rfl⟩
def tC (c : Cl) : Co := ⟨c.val,c.alive,c.next,sl cL c.stk⟩
def dJ (m : List Cl) (j : Nat) (X : AV) : List Co := (m.map tC).set j { tC m[j]! with av := X }
theorem k6 (m:List Cl):flat fH (m.map tC) = flat bO m:=by
 unfold flat;rw [List.flatMap_map]; rfl
theorem dF {m:List Cl}{j:Nat}{X:AV}:(dJ m j X).length = m.length := by unfold dJ;rw [List.length_set,List.length_map]
theorem iF {m:List Cl}{j:Nat}{X:AV}(h:j < m.length):(dJ m j X)[j]! = ⟨m[j]!.val,m[j]!.alive,m[j]!.next,X⟩:=by
 unfold dJ
 rw [bC _ _ (by rw [List.length_set,List.length_map]; exact h),List.getElem_set_self]; rfl
theorem jS {m:List Cl}{j:Nat}{X:AV}(h:j < m.length):flat fH (dJ m j X) = flat bO (m.take j) ++ ([iv m[j]!.val,bv m[j]!.alive,iv m[j]!.next] ++ X :: flat bO (m.drop (j + 1))):=by
 unfold dJ
 rw [List.set_eq_take_append_cons_drop,if_pos (by rw [List.length_map]; exact h),← cP,← List.map_take,k6,← List.map_drop]
 congr 1
 show fH _ ++ flat fH _ = _
 rw [k6]; rfl
theorem x7 {m:List Cl}{j:Nat}{X:AV}(h:j < m.length):flat fH (dJ m j X) = (flat bO (m.take j) ++ [iv m[j]!.val,bv m[j]!.alive,iv m[j]!.next]) ++ X :: flat bO (m.drop (j + 1)):=by
 rw [jS h,List.append_assoc]
theorem Cr {m:List Cl}{j:Nat}{r:List Tg}:flat fH (dJ m j (sl cL r)) = flat bO (m.set j { m[j]! with stk := r }):=by
 rw [← k6,List.map_set]; rfl
theorem A2 {m:List Cl}{j:Nat}{X:AV}(h:j < m.length):hZ (flat bO m) (0 + j * 4 + 3) [X] = flat fH (dJ m j X):=by
 rw [← k6]
 have := eY (f := fH) (xs := m.map tC) (k := j) (j := 3) (new := [X]) (y := { tC m[j]! with av := X }) (by rw [List.length_map]; exact h) (by simp) (by
  have e : (m.map tC)[j]! = tC m[j]! := by rw [bC _ _ (by rw [List.length_map]; exact h),List.getElem_map,bC _ _ h]
  rw [e]; rfl)
 exact this
theorem uE {m:List Cl}{j:Nat}{X Y:AV}(h:j < m.length):hZ (flat fH (dJ m j X)) (0 + j * 4 + 3) [Y] = flat fH (dJ m j Y):=by
 have e : dJ m j Y = (dJ m j X).set j { tC m[j]! with av := Y } := by unfold dJ;rw [List.set_set]
 rw [e]
 exact eY (by rw [dF]; exact h) (by simp) (by rw [iF h]; rfl)
theorem Au {m:List Cl}{j:Nat}{X:AV}{v:Int}(h:j < m.length):hZ (flat fH (dJ m j X)) (0 + j * 4 + 2) [iv v] = flat fH (dJ (m.set j { m[j]! with next := v }) j X):=by
 have e : dJ (m.set j { m[j]! with next := v }) j X = (dJ m j X).set j ⟨m[j]!.val, m[j]!.alive, v, X⟩ := by
  have e2 : (m.set j { m[j]! with next := v })[j]! = { m[j]! with next := v } := by rw [bC _ _ (by rw [List.length_set]; exact h),List.getElem_set_self]
  unfold dJ
  rw [e2,List.map_set,List.set_set,List.set_set]; rfl
 rw [e]
 exact eY (by rw [dF]; exact h) (by simp) (by rw [iF h]; rfl)
theorem Le.cls {ts:List (Nat × AV)}{hs:List (Nat × Option (List AV))}{n:Nat}{z0:Lo}{o q j k:Nat}{m:List Cl}{r:List Tg}(hj:aU hs o = some (flat fH (dJ m j (.own q 0 k 2)))) (hq:aU hs q = some (flat cL r)) (hk:k = r.length) (hjm:j < m.length) (hoq:o ≠ q) :
  Le ⟨ts,hs,n,z0⟩ ⟨ts,(o,some (flat bO (m.set j { m[j]! with stk := r }))) :: (q,none) :: hs,n,z0⟩ := by
 subst hk
 rw [x7 hjm] at hj
 have h := Le.frzC (ts := ts) (n := n) (z0 := z0) _ hj hq hoq
 rw [← Cr,x7 hjm]; exact h
theorem AU {ρ:Nat → Option Nat}{m:List Cl}{j k i i':Nat}(hr:ρ i = some i'):RnL ρ (flat fH (dJ m j (.own i 0 k 2))) (flat fH (dJ m j (.own i' 0 k 2))):=by
 by_cases h : j < m.length
 ·rw [jS h, jS h]
  exact RnL.app (RnL.purI inferInstance) (RnL.app (RnL.purI inferInstance) (RnL.cons (RnV.own hr) (RnL.purI inferInstance)))
 ·have e : ∀ X, dJ m j X = m.map tC := fun X => List.set_eq_of_length_le (by rw [List.length_map]; omega)
  rw [e,e,k6]
  exact RnL.purI inferInstance
theorem sE {p:Prop}{α:Type}{a c:Option α}{b:α}(h:some b = c) (e:a = some b := by rfl):p ∨ a = c := .inr (e.trans h)
section
variable {P : Program} {N : Nat} {Q : Exit → AS → Prop} {all : Array Oper} {rest : List Oper} {ts : List (Nat × AV)} {hs : List (Nat × Option (List AV))} {n : Nat} {z0 : Lo} {md : Md}
variable {ty : TypeId} {pos : String} {af : Array Edge}
theorem aZ {d:Nat}{k:FuncId}{l:List Operand}{tys:Array TypeId}{avs avs0:List AV}{H0:List (Nat × Option (List AV))}{rr rr':AV}{hh:List (Nat × Option (List AV))}
  (mp : List Nat) (n1 : Nat) (ws : List (Nat × Option (List AV))) (h : MC P k avs0 H0 mp.length (fun _ : Unit => True) (fun _ => rr) (fun _ => hh)) [hc : CaT P k] (ha : evL (lk ts) l = some avs) (hd : distinct mp = true)
  (hM : Nat.ble (n + (n1 - mp.length)) aX = true) (hN : Nat.blt d N = true)
  {md' : Md} [hmd : MdA md (fP l ++ mp.map .inr) (ws.map (fun p => .inr p.1) ++ [.inl d]) md']
  (kk : RW P N all Q md' rest ⟨(d,rr') :: ts,gR hs ws,n + (n1 - mp.length),z0⟩)
  (hH0 : qB hs H0 mp 0 mp := by repeat' (first|exact trivial|(refine And.intro ⟨_,_,rfl,by assumption,?_⟩ ?_)|exact RnL.purI inferInstance|exact AU rfl|exact RnV.purI inferInstance|exact RnV.own rfl|exact RnV.optr rfl|exact RnL.nil|refine RnL.cons ?_ ?_|refine RnV.agg ?_|refine RnV.tup ?_))
  (hk : gF mp.length H0 = true := by rfl)
  (har : RnL (mp[·]?) avs0 avs := by repeat' (first|exact RnL.purI inferInstance|exact AU rfl|exact RnV.purI inferInstance|exact RnV.own rfl|exact RnV.optr rfl|exact RnL.nil|refine RnL.cons ?_ ?_|refine RnV.agg ?_|refine RnV.tup ?_))
  (hr : RnV (xB mp n n1) rr rr' := by repeat' (first|exact RnL.purI inferInstance|exact AU rfl|exact RnV.purI inferInstance|exact RnV.own rfl|exact RnV.optr rfl|exact RnL.nil|refine RnL.cons ?_ ?_|refine RnV.agg ?_|refine RnV.tup ?_))
  (hwa : sQ mp ws = true := by simp [sQ])
  (hw : qA (xB mp n n1) hh ws := by repeat' (first|exact trivial|(refine And.intro ⟨0,_,rfl,rfl,?_⟩ ?_)|(refine And.intro ⟨1,_,rfl,rfl,?_⟩ ?_)|(refine And.intro ⟨2,_,rfl,rfl,?_⟩ ?_)|(refine And.intro ⟨3,_,rfl,rfl,?_⟩ ?_)|(refine And.intro ⟨4,_,rfl,rfl,?_⟩ ?_)|(refine And.intro ⟨5,_,rfl,rfl,?_⟩ ?_)|(refine And.intro ⟨6,_,rfl,rfl,?_⟩ ?_)|exact RnL.purI inferInstance|exact AU rfl|exact RnV.purI inferInstance|exact RnV.own rfl|exact RnV.optr rfl|exact RnL.nil|refine RnL.cons ?_ ?_|refine RnV.agg ?_|refine RnV.tup ?_)) :
  RW P N all Q md (⟨some d,.call ⟨.value (.func k),l.toArray,tys⟩,ty,pos,af,none⟩ :: rest) ⟨ts,hs,n,z0⟩ :=
 rR mp n1 ws h (avs := avs) ha hd hH0 hk har hM hr hwa hw hN (md' := md') (hmd := hmd) kk
end
theorem aE {G K:Prop}(k:K) (h:Hy K → G := by first|(intro k;(first|refine HJ ?_ | refine RM ?_);exact k.pf) | fail):G := h ⟨k⟩
theorem NS:∀ {l:List Tg}{a b:Tg},(l.map (·.id)).Nodup → a ∈ l → b ∈ l → a.id = b.id → a = b
 | [],_,_,_,h,_,_ => by cases h
 | t :: l, a, b, hn, ha, hb, e => by
  rw [List.map_cons,List.nodup_cons] at hn
  rcases List.mem_cons.1 ha with q|ha'
  ·rcases List.mem_cons.1 hb with q' | hb'
   ·rw [q,q']
   ·exact absurd (List.mem_map.2 ⟨b,hb',by rw [← e,q]⟩) hn.1
  ·rcases List.mem_cons.1 hb with q' | hb'
   ·exact absurd (List.mem_map.2 ⟨a,ha',by rw [e,q']⟩) hn.1
   ·exact NS hn.2 ha' hb' e
theorem u6 {stk:List Tg}{t:Tg}(hn:(stk.map (·.id)).Nodup) (h:t ∈ stk):0 ≤ cD stk t.id ∧ (cD stk t.id).toNat < stk.length ∧ stk[(cD stk t.id).toNat]! = t:=by
 have h0 : 0 ≤ cD stk t.id := by
  apply Classical.byContradiction;intro q
  exact oB.1 (by omega : cD stk t.id < 0) t h rfl
 have hb := eG stk t.id
 have hk : (cD stk t.id).toNat < stk.length := by omega
 exact ⟨h0,hk,NS hn (aW _ _ hk) h (Eu h0)⟩
theorem EH {a b:Tg}{l:List Tg}(h:[a,b].Sublist l):a ∈ l ∧ b ∈ l := ⟨h.subset (by simp),h.subset (by simp)⟩
theorem OI {a b:Tg}{l:List Tg}(hn:(l.map (·.id)).Nodup) (h:[a,b].Sublist l):a.id ≠ b.id:=by
 have := (h.map (·.id)).nodup hn
 simpa using this
theorem MR {a b:Tg}{l:List Tg}(hn:(l.map (·.id)).Nodup) (hl:0 < l.length) (h:[a,b].Sublist l):b ≠ l[0]!:=by
 cases l with
 | nil => cases h
 | cons t l =>
  intro q
  have e : (t :: l)[0]! = t := rfl
  rw [e] at q
  rw [q] at h
  rw [List.map_cons,List.nodup_cons] at hn
  have ht : t ∉ l := fun q => hn.1 (List.mem_map.2 ⟨t,q,rfl⟩)
  cases h with
  | cons _ h => exact ht (h.subset (by simp))
  | cons_cons _ h => exact ht (h.subset (by simp))
theorem MI {b:Tg}{l:List Tg}(h:b ∈ l) (hne:b ≠ l[0]!):[l[0]!,b].Sublist l:=by
 cases l with
 | nil => cases h
 | cons t l =>
  have e : (t :: l)[0]! = t := rfl
  rw [e] at hne ⊢
  rcases List.mem_cons.1 h with h|h
  ·exact absurd h hne
  ·exact (List.singleton_sublist.2 h).cons_cons t
theorem GJ {stk:List Tg}{k:Nat}{wr:Bool}(hk:k < stk.length){t:Tg}(h:t ∈ stk) (hn:t ∉ fE stk k wr):[stk[k]!,t].Sublist stk ∧ (wr = false → t.uq = true):=by
 have ht : t ∉ stk.take (k + 1) := fun q => hn (by unfold fE;split;exact q;exact List.mem_append_left _ q)
 have hd : t ∈ stk.drop (k + 1) := by
  rw [← List.take_append_drop (k + 1) stk] at h
  exact (List.mem_append.1 h).resolve_left ht
 refine ⟨?_,fun hw => ?_⟩
 ·have h1 : [stk[k]!].Sublist (stk.take (k + 1)) := List.singleton_sublist.2 (by rw [bG _ _ hk]; simp)
  have h2 := h1.append (List.singleton_sublist.2 hd)
  rwa [List.take_append_drop] at h2
 ·apply Classical.byContradiction; intro q
  apply hn
  unfold fE
  rw [if_neg (by rw [hw]; decide)]
  exact List.mem_append_right _ (List.mem_filter.2 ⟨hd,by simpa using q⟩)
theorem yU {stk:List Tg}{k:Nat}{wr:Bool}(hk:k < stk.length){t:Tg}(h:t ∈ fE stk k wr) (hu:wr = false → t.uq = true):t = stk[k]! ∨ [t,stk[k]!].Sublist stk:=by
 have ht : t ∈ stk.take (k + 1) := by
  unfold fE at h
  split at h
  ·exact h
  ·rename_i hw
   rcases List.mem_append.1 h with h|h
   ·exact h
   ·have h1 := (List.mem_filter.1 h).2
    rw [hu (by simpa using hw)] at h1;cases h1
 have e := bG _ _ hk
 rw [e] at ht
 rcases List.mem_append.1 ht with ht|ht
 ·refine .inr (List.Sublist.trans ?_ (List.take_sublist (k + 1) stk))
  rw [e]
  exact (List.singleton_sublist.2 ht).append (List.Sublist.refl _)
 ·exact .inl (by simpa using ht)
theorem zG {a b t:Tg}{l:List Tg}(h:[a,b].Sublist (l ++ [t])):[a,b].Sublist l ∨ (b = t ∧ a ∈ l):=by
 obtain ⟨x,y,e,hx,hy⟩ := List.sublist_append_iff.1 h
 match x,e with
 | [], e =>
  have : y = [a,b] := by simpa using e.symm
  rw [this] at hy;have := hy.length_le;simp at this
 | [c], e =>
  have e' : a = c ∧ [b] = y := by simpa using e
  rw [← e'.2] at hy
  refine .inr ⟨by simpa using hy.subset (List.mem_singleton_self b),?_⟩
  rw [e'.1]; exact hx.subset (by simp)
 | [c, d], e =>
  have e' : a = c ∧ b = d := by simp at e;exact ⟨e.1,e.2.1⟩
  rw [e'.1,e'.2]; exact .inl hx
 | c :: d :: f :: z,e => simp at e
abbrev Ut (a b : Tg) : Prop := b.uq = true → a.uq = true
structure Sh (N : Int) (c : Cl) : Prop where
 n : c.next ≤ N
 l : (c.stk.length : Int) ≤ c.next
 p : c.stk.Pairwise Ut
def ShM (N : Int) (m : List Cl) : Prop := ∀ c ∈ m,Sh N c
theorem Sh.two {N:Int}{c:Cl}(h:Sh N c){a b:Tg}(hs:[a,b].Sublist c.stk) (hb:b.uq = true):a.uq = true:=by
 have := h.p.sublist hs
 simp only [List.pairwise_cons,List.mem_singleton,forall_eq] at this
 exact this.1 hb
theorem Sh.mono {N N':Int}{c:Cl}(h:Sh N c) (hN:N ≤ N'):Sh N' c := ⟨Int.le_trans h.n hN,h.l,h.p⟩
theorem ShM.mono {N N':Int}{m:List Cl}(h:ShM N m) (hN:N ≤ N'):ShM N' m := fun c hc => (h c hc).mono hN
theorem Sh.tch {N:Int}{c:Cl}(h:Sh N c) (x:Pt) (wr:Bool):Sh N (iV c x wr):=by
 have hs := tchS_sub (stk := c.stk) (k := (cD c.stk x.tag).toNat) (wr := wr)
 refine ⟨h.n,?_,h.p.sublist hs⟩
 have h1 := hs.length_le
 have h2 := h.l
 show ((fE c.stk _ wr).length : Int) ≤ c.next
 omega
theorem ShM.set {N:Int}{m:List Cl}(h:ShM N m){k:Nat}{c:Cl}(hc:Sh N c):ShM N (m.set k c) :=
 fun x hx => (List.mem_or_eq_of_mem_set hx).elim (h x) (fun e => e ▸ hc)
theorem ShM.at {N:Int}{m:List Cl}(h:ShM N m){k:Nat}(hk:k < m.length):Sh N m[k]! := h _ (aW _ _ hk)
theorem ShM.tch {N:Int}{m:List Cl}(h:ShM N m) (x:Pt) (wr:Bool):ShM N (cV m x wr):=by
 unfold cV;split
 ·rename_i hk;exact h.set ((h.at (dU hk).2.2).tch x wr)
 ·exact h
theorem ShM.fr {N:Int}{m:List Cl}(h:ShM N m) (x:Pt):ShM N (g8 m x):=by
 unfold g8;split
 ·rename_i hk
  have h1 := (h.at (dU hk).2.2).tch x true
  exact h.set ⟨h1.n,h1.l,h1.p⟩
 ·exact h
theorem ShM.wr {N:Int}{m:List Cl}(h:ShM N m) (x:Pt) (v:Int):ShM N (oQ m x v):=by
 unfold oQ
 by_cases hk : qU m x v = 0
 ·rw [if_pos hk]
  unfold qU at hk
  by_cases hv : 0 ≤ v ∧ v ≤ 9
  ·rw [if_pos hv] at hk
   have h1 := (h.at (dU hk).2.2).tch x true
   exact h.set ⟨h1.n,h1.l,h1.p⟩
  ·rw [if_neg hv] at hk;cases hk
 ·rw [if_neg hk]; exact h
theorem ShM.nw {N:Int}{m:List Cl}(h:ShM N m) (hN:1 ≤ N) (v:Int):ShM N (m ++ [oT v]) := fun c hc =>
 (List.mem_append.1 hc).elim (h c) (fun h => by
  rw [List.mem_singleton.1 h]
  exact ⟨hN,by show ((1 : Nat) : Int) ≤ 1;decide,by simp [oT]⟩)
theorem Jj {m:List Cl}{x:Pt}{wr:Bool}(h:a7 m x wr = 0):m[x.cell.toNat]!.alive = true ∧ 0 ≤ cD m[x.cell.toNat]!.stk x.tag ∧ (wr = true → m[x.cell.toNat]!.stk[(cD m[x.cell.toNat]!.stk x.tag).toNat]!.uq = true):=by
 unfold a7 at h
 split at h
 ·cases h
 split at h
 ·cases h
 rename_i ha
 split at h
 ·cases h
 rename_i ht
 split at h
 ·cases h
 rename_i hw
 refine ⟨by simpa using ha,by omega,fun e => ?_⟩
 simpa [e] using hw
theorem ShM.ln {N:Int}{m:List Cl}(h:ShM N m) (x:Pt) (u:Bool):ShM (N + 1) (jT m x u):=by
 unfold jT
 by_cases hk : kV m x u = 0
 ·rw [if_pos hk]
  have h0 := mB hk
  have hx := dU h0
  have ht := Jj h0
  have hc := (h.at hx.2.2)
  have h1 := hc.tch x u
  have hb := eG m[x.cell.toNat]!.stk x.tag
  refine ShM.set (h.mono (by omega)) (Sh.mk ?_ ?_ ?_)
  ·have := h1.n;show (iV m[x.cell.toNat]! x u).next + 1 ≤ N + 1;omega
  ·have := h1.l; show (((iV m[x.cell.toNat]! x u).stk ++ [_]).length : Int) ≤ (iV m[x.cell.toNat]! x u).next + 1
   rw [List.length_append,List.length_singleton]; omega
  ·show ((iV m[x.cell.toNat]! x u).stk ++ [(⟨(iV m[x.cell.toNat]! x u).next, u⟩ : Tg)]).Pairwise Ut
   rw [List.pairwise_append]
   refine ⟨h1.p,by simp,fun a ha b hb' => ?_⟩
   rw [List.mem_singleton.1 hb']
   intro hu
   dsimp only at hu
   subst hu
   have hw := ht.2.2 rfl
   have hkk : (cD m[x.cell.toNat]!.stk x.tag).toNat < m[x.cell.toNat]!.stk.length := by omega
   have ha' : a ∈ fE m[x.cell.toNat]!.stk (cD m[x.cell.toNat]!.stk x.tag).toNat true := ha
   rcases yU hkk ha' (fun q => by cases q) with e|e
   ·rw [e]; exact hw
   ·exact hc.two e hw
 ·rw [if_neg hk]; exact h.mono (by omega)
theorem uG {m:List Cl}{x:Pt}{wr:Bool}(hk:a7 m x wr = 0) (c:Nat):(cV m x wr)[c]! = if x.cell.toNat = c then iV m[c]! x wr else m[c]!:=by
 have h := dU hk
 unfold cV
 rw [if_pos hk,aQ]
 by_cases q : x.cell.toNat = c
 ·rw [if_pos ⟨q,by omega⟩,if_pos q,q]
 ·rw [if_neg (fun h => q h.1),if_neg q]
theorem NT {m:List Cl}{x:Pt}(hk:a7 m x true = 0) (c:Nat) (hc:x.cell.toNat ≠ c):(g8 m x)[c]! = m[c]!:=by
 unfold g8
 rw [if_pos hk,aQ,if_neg (fun h => hc h.1)]
theorem Fm {m:List Cl}{x:Pt}{u:Bool}(hk:kV m x u = 0) (c:Nat):(jT m x u)[c]! = if x.cell.toNat = c then psh (iV m[c]! x u) u else m[c]!:=by
 have h := dU (mB hk)
 unfold jT
 rw [if_pos hk,aQ]
 by_cases q : x.cell.toNat = c
 ·rw [if_pos ⟨q,by omega⟩,if_pos q,q]
 ·rw [if_neg (fun h => q h.1),if_neg q]
theorem IB {m:List Cl}{x:Pt}{v:Int}(hk:qU m x v = 0):a7 m x true = 0:=by
 unfold qU at hk
 split at hk
 ·exact hk
 ·cases hk
theorem Rv {m:List Cl}{x:Pt}{v:Int}(hk:qU m x v = 0) (c:Nat):(oQ m x v)[c]!.alive = (cV m x true)[c]!.alive ∧ (oQ m x v)[c]!.stk = (cV m x true)[c]!.stk:=by
 have h0 := IB hk
 have h := dU h0
 rw [uG h0]
 unfold oQ
 rw [if_pos hk,aQ]
 by_cases q : x.cell.toNat = c
 ·rw [if_pos ⟨q,by omega⟩,if_pos q,q]; exact ⟨rfl,rfl⟩
 ·rw [if_neg (fun h => q h.1),if_neg q]; exact ⟨rfl,rfl⟩
def jB (ts : List Int) (sl : List Sl) (v : Nat) : Tg := ⟨sl[v]!.ptr.tag,!decide (ts[v]! = 3)⟩
def gL (sl : List Sl) (v : Nat) : Nat := sl[v]!.ptr.cell.toNat
structure RfI (ts : List Int) (P : Nat → Prop) (G : Nat → Nat → Prop) (sl : List Sl) (m : List Cl) : Prop where
 l : ∀ v,v < ts.length → 3 ≤ ts[v]! → sl[v]!.set = true → P v → m[gL sl v]!.alive = true ∧ jB ts sl v ∈ m[gL sl v]!.stk
 c : ∀ v w,v < ts.length → w < ts.length → 3 ≤ ts[v]! → (ts[w]! = 2 ∨ ts[w]! = 4) → sl[v]!.set = true → sl[w]!.set = true → P v → gL sl v = gL sl w → [jB ts sl w,jB ts sl v].Sublist m[gL sl v]!.stk → G v w
section
variable {ts : List Int} {P P' : Nat → Prop} {G : Nat → Nat → Prop} {sl : List Sl} {m m' : List Cl} {N : Int}
theorem RfI.mono (R:RfI ts P G sl m) (h:∀ v,P' v → P v):RfI ts P' G sl m :=
 ⟨fun v h1 h2 h3 h4 => R.l v h1 h2 h3 (h v h4),fun v w h1 h2 h3 h4 h5 h6 h7 => R.c v w h1 h2 h3 h4 h5 h6 (h v h7)⟩
theorem RfI.cong (R:RfI ts P G sl m) (h:∀ c:Nat,m'[c]!.alive = m[c]!.alive ∧ m'[c]!.stk = m[c]!.stk):RfI ts P G sl m':=by
 refine ⟨fun v h1 h2 h3 h4 => ?_,fun v w h1 h2 h3 h4 h5 h6 h7 h8 h9 => ?_⟩
 ·rw [(h _).1,(h _).2]; exact R.l v h1 h2 h3 h4
 ·rw [(h _).2] at h9;exact R.c v w h1 h2 h3 h4 h5 h6 h7 h8 h9
theorem RfI.tch (hT:∀ v,v < ts.length → ts[v]! ≤ 4) (hm:OkM m) (hs:ShM N m) (R:RfI ts P G sl m) (hP:∀ v,P' v → P v){u:Nat}{wr:Bool}(hu:u < ts.length) (h2:2 ≤ ts[u]!) (hset:sl[u]!.set = true)
  (hk : a7 m sl[u]!.ptr wr = 0) (hin : jB ts sl u ∈ m[gL sl u]!.stk) (hwr : wr = true → ts[u]! ≠ 3) (hc : ∀ v,P' v → G v u → ¬ (wr = true ∨ ts[v]! = 4)) : RfI ts P' G sl (cV m sl[u]!.ptr wr) := by
 have hx := dU hk
 have hcc := hm.at hx.2.2
 obtain ⟨t1,t2,t3⟩ := u6 hcc.d hin
 refine ⟨fun v h1 h2' h3 h4 => ?_,fun v w h1 h2' h3 h4 h5 h6 h7 h8 h9 => ?_⟩
 ·obtain ⟨a1, a2⟩ := R.l v h1 h2' h3 (hP v h4)
  rw [uG hk]
  by_cases q : sl[u]!.ptr.cell.toNat = gL sl v
  ·rw [if_pos q]
   refine ⟨a1,?_⟩
   rw [← q] at a2 ⊢
   apply Classical.byContradiction;intro hn
   have hn' : jB ts sl v ∉ fE m[sl[u]!.ptr.cell.toNat]!.stk (cD m[sl[u]!.ptr.cell.toNat]!.stk (jB ts sl u).id).toNat wr := hn
   obtain ⟨g1,g2⟩ := GJ t2 a2 hn'
   have t3' : m[sl[u]!.ptr.cell.toNat]!.stk[(cD m[sl[u]!.ptr.cell.toNat]!.stk (jB ts sl u).id).toNat]! = jB ts sl u := t3
   rw [t3'] at g1
   by_cases q3 : ts[u]! = 3
   ·have hwf : wr = false := by cases wr with | false => rfl | true => exact absurd q3 (hwr rfl)
    have := (hs.at hx.2.2).two g1 (g2 hwf)
    simp [jB,q3] at this
   ·have hb := hT u hu
    have hg := R.c v u h1 hu h2' (by omega) h3 hset (hP v h4) q.symm (by rw [← q]; exact g1)
    refine hc v h4 hg ?_
    cases hw : wr with
    | true => exact .inl rfl
    | false =>
     have h5 := g2 hw
     have hb' := hT v h1
     have : ts[v]! ≠ 3 := by simpa [jB] using h5
     exact .inr (by omega)
  ·rw [if_neg q]; exact ⟨a1,a2⟩
 ·refine R.c v w h1 h2' h3 h4 h5 h6 (hP v h7) h8 (h9.trans ?_)
  rw [uG hk]
  split
  ·exact tchS_sub
  ·exact List.Sublist.refl _
theorem RfI.fr (hd:Hd m) (R:RfI ts P G sl m) (hP:∀ v,P' v → P v) (hf:∀ v,v < ts.length → 3 ≤ ts[v]! → sl[v]!.set = true → 1 ≤ sl[v]!.ptr.tag){u:Nat}(hu:u < ts.length) (h2:ts[u]! = 2) (hset:sl[u]!.set = true)
  (hk : a7 m sl[u]!.ptr true = 0) (h0 : sl[u]!.ptr.tag = 0) (hc : ∀ v,P' v → ¬ G v u) : RfI ts P' G sl (g8 m sl[u]!.ptr) := by
 have hx := dU hk
 have e0 := hd _ hx.2.2
 have eu : jB ts sl u = ⟨0,true⟩ := by unfold jB;rw [h0,h2]; rfl
 have key : ∀ v, v < ts.length → 3 ≤ ts[v]! → sl[v]!.set = true → P' v → sl[u]!.ptr.cell.toNat ≠ gL sl v := fun v h1 h2' h3 h4 q => by
  obtain ⟨a1,a2⟩ := R.l v h1 h2' h3 (hP v h4)
  have hne : jB ts sl v ≠ m[gL sl v]!.stk[0]! := by
   rw [← q,e0]; intro e
   have e1 : (jB ts sl v).id = 0 := by rw [e]
   have e2 : sl[v]!.ptr.tag = 0 := e1
   have e3 := hf v h1 h2' h3
   omega
  have hs := MI a2 hne
  refine hc v h4 (R.c v u h1 hu h2' (.inl h2) h3 hset (hP v h4) q.symm ?_)
  rw [eu,← e0,show sl[u]!.ptr.cell.toNat = gL sl v from q]; exact hs
 refine ⟨fun v h1 h2' h3 h4 => ?_,fun v w h1 h2' h3 h4 h5 h6 h7 h8 h9 => ?_⟩
 ·rw [NT hk _ (key v h1 h2' h3 h4)]; exact R.l v h1 h2' h3 (hP v h4)
 ·rw [NT hk _ (key v h1 h3 h5 h7)] at h9;exact R.c v w h1 h2' h3 h4 h5 h6 (hP v h7) h8 h9
theorem RfI.ln {x:Pt}{b:Bool}(hk:kV m x b = 0) (R:RfI ts P G sl (cV m x b)) (hf:∀ v,v < ts.length → 3 ≤ ts[v]! → sl[v]!.set = true → sl[v]!.ptr.tag < m[gL sl v]!.next):RfI ts P G sl (jT m x b):=by
 have h0 := mB hk
 refine ⟨fun v h1 h2 h3 h4 => ?_,fun v w h1 h2 h3 h4 h5 h6 h7 h8 h9 => ?_⟩
 ·have hr := R.l v h1 h2 h3 h4
  rw [uG h0] at hr
  rw [Fm hk]
  split
  ·rename_i q
   rw [if_pos q] at hr
   exact ⟨hr.1,List.mem_append_left _ hr.2⟩
  ·rename_i q
   rw [if_neg q] at hr;exact hr
 ·refine R.c v w h1 h2 h3 h4 h5 h6 h7 h8 ?_
  rw [Fm hk] at h9
  rw [uG h0]
  split at h9
  ·rename_i q
   rw [if_pos q]
   have h9' : [jB ts sl w,jB ts sl v].Sublist ((iV m[gL sl v]! x b).stk ++ [⟨m[gL sl v]!.next,b⟩]) := h9
   rcases zG h9' with e | ⟨e,_⟩
   ·exact e
   ·exfalso
    have e1 : (jB ts sl v).id = m[gL sl v]!.next := by rw [e]
    have e2 : sl[v]!.ptr.tag = m[gL sl v]!.next := e1
    have := hf v h1 h3 h5
    omega
  ·rename_i q
   rw [if_neg q]; exact h9
theorem RfI.nw (R:RfI ts P G sl m) (hf:∀ v,v < ts.length → 3 ≤ ts[v]! → sl[v]!.set = true → gL sl v < m.length) (z:Cl):RfI ts P G sl (m ++ [z]):=by
 refine ⟨fun v h1 h2 h3 h4 => ?_,fun v w h1 h2 h3 h4 h5 h6 h7 h8 h9 => ?_⟩
 ·rw [oS (hf v h1 h2 h3)]; exact R.l v h1 h2 h3 h4
 ·rw [oS (hf v h1 h3 h5)] at h9;exact R.c v w h1 h2 h3 h4 h5 h6 h7 h8 h9
end
def Ac (ts : List Int) (pts : List Pnt) (a w : Nat) (wr : Bool) : Prop :=
 ((pts[a]!.op = 4 ∨ pts[a]!.op = 6) ∧ pts[a]!.y = (w : Int) ∧ wr = false) ∨ (pts[a]!.op = 5 ∧ pts[a]!.y = (w : Int) ∧ wr = true) ∨ ((pts[a]!.op = 7 ∨ pts[a]!.op = 8) ∧ pts[a]!.x = (w : Int) ∧ wr = true) ∨
 (pts[a]!.op = 3 ∧ xA ts[w]! = true ∧ pts[a]!.y = (w : Int) ∧ wr = true) ∨ (aM pts[a]! = (w : Int) ∧ ts[w]! = 2 ∧ Mb ts pts (a,w) ∧ wr = true)
def Ln (ts : List Int) (pts : List Pnt) (a v w : Nat) : Prop := ∃ L,Et ts pts (a,v,L) ∧ KT ts pts (a,L) ∧ pts[L]!.y = (w : Int) ∧ (ts[v]! = 4 → pts[L]!.op = 5)
def Kp (ts : List Int) (pts : List Pnt) (a v : Nat) : Prop := Lv ts pts a v ∧ aM pts[a]! ≠ (v : Int) ∧ aP ts pts[a]! v ≠ 2
def Cf (ts : List Int) (pts : List Pnt) (a L : Nat) : Prop := ∃ v w wr,Kp ts pts a v ∧ Ac ts pts a w wr ∧ Et ts pts (a,v,L) ∧ KT ts pts (a,L) ∧ pts[L]!.y = (w : Int) ∧ (wr = true ∨ pts[L]!.op = 5)
structure Bs (ts : List Int) (N : Int) (s : Mc) : Prop where
 w : Own ts s none
 i : ∀ v,v < ts.length → ts[v]! = 1 → 0 ≤ s.slots[v]!.num ∧ s.slots[v]!.num ≤ 9
 sm : ShM N s.cells
 f : ∀ v,v < ts.length → 3 ≤ ts[v]! → s.slots[v]!.set = true → 0 ≤ s.slots[v]!.ptr.cell ∧ s.slots[v]!.ptr.cell < s.cells.length ∧ 1 ≤ s.slots[v]!.ptr.tag ∧ s.slots[v]!.ptr.tag < s.cells[gL s.slots v]!.next
 d : ∀ v u,v < ts.length → u < ts.length → ts[v]! = 4 → ts[u]! = 4 → s.slots[v]!.set = true → s.slots[u]!.set = true → gL s.slots v = gL s.slots u → s.slots[v]!.ptr.tag = s.slots[u]!.ptr.tag → v = u
section
variable {ts : List Int} {pts : List Pnt} {N : Int} {a : Nat} {s : Mc}
theorem Kp.nd (w:WG ts pts){v:Nat}(h:Kp ts pts a v):Nd ts pts (a,v):=by
 obtain ⟨k,e,hk⟩ := h.1
 exact .step hk ⟨rfl,e,h.2.1⟩
theorem rJ (hC:∀ L,¬ Cf ts pts a L){u:Nat}{wr:Bool}(hA:Ac ts pts a u wr):∀ v,Kp ts pts a v → Ln ts pts a v u → ¬ (wr = true ∨ ts[v]! = 4):=by
 rintro v hv ⟨L,h1,h2,h3,h4⟩ h
 exact hC L ⟨v,u,wr,hv,hA,h1,h2,h3,h.elim .inl (fun q => .inr (h4 q))⟩
theorem RfI.use (w:WG ts pts) (B:Bs ts N s) (R:RfI ts (fun v => Nd ts pts (a,v)) (Ln ts pts a) s.slots s.cells) (ha:a < pts.length) (hu:cE ts s pts[a]! = false){u:Nat}(hul:u < ts.length) (h2:2 ≤ ts[u]!) (huse:aP ts pts[a]! u ≠ 0) :
  s.slots[u]!.set = true ∧ 0 ≤ s.slots[u]!.ptr.cell ∧ s.slots[u]!.ptr.cell < s.cells.length ∧ s.cells[gL s.slots u]!.alive = true ∧ jB ts s.slots u ∈ s.cells[gL s.slots u]!.stk := by
 have hset := iI hu hul huse
 by_cases q : ts[u]! = 2
 ·obtain ⟨b1, b2, b3, b4⟩ := B.w.o u hul q hset
  refine ⟨hset,b1,b2,b4,?_⟩
  have hc : gL s.slots u < s.cells.length := by unfold gL;omega
  have h0 := B.w.h _ hc
  have hl := (B.w.k.m.at hc).l
  have e : jB ts s.slots u = s.cells[gL s.slots u]!.stk[0]! := by rw [h0]; unfold jB;rw [b3,q]; rfl
  rw [e]; exact aW _ _ (by omega)
 ·obtain ⟨f1, f2, _⟩ := B.f u hul (by omega) hset
  obtain ⟨l1,l2⟩ := R.l u hul (by omega) hset (.base ⟨ha,hul,huse⟩)
  exact ⟨hset,f1,f2,l1,l2⟩
theorem P8 {m:List Cl}(hm:OkM m){x:Pt}{b:Bool}{wr:Bool}(h1:0 ≤ x.cell ∧ x.cell < m.length) (h2:m[x.cell.toNat]!.alive = true) (h3:(⟨x.tag,b⟩:Tg) ∈ m[x.cell.toNat]!.stk) (hw:wr = true → b = true):a7 m x wr = 0:=by
 have hc := hm.at (k := x.cell.toNat) (by omega)
 obtain ⟨t1,t2,t3⟩ := u6 hc.d h3
 dsimp only at t1 t3
 unfold a7
 rw [if_neg (fun q => q h1),if_neg (by rw [h2]; decide),if_neg (by omega),if_neg]
 rintro ⟨e1,e2⟩
 rw [t3] at e2
 dsimp only at e2
 rw [hw e1] at e2;cases e2
theorem RfI.code (w:WG ts pts) (B:Bs ts N s) (R:RfI ts (fun v => Nd ts pts (a,v)) (Ln ts pts a) s.slots s.cells) (ha:a < pts.length) (hu:cE ts s pts[a]! = false){u:Nat}(hul:u < ts.length) (h2:2 ≤ ts[u]!) (huse:aP ts pts[a]! u ≠ 0){wr:Bool}(hw:wr = true → ts[u]! ≠ 3):a7 s.cells s.slots[u]!.ptr wr = 0:=by
 obtain ⟨h3,h4,h5,h6,h7⟩ := R.use w B ha hu hul h2 huse
 exact P8 B.w.k.m ⟨h4,h5⟩ h6 h7 (fun e => by have := hw e;simpa using this)
end
section
variable {ts : List Int} {pts : List Pnt} {N : Int} {a k : Nat} {s : Mc}
theorem PE {m:List Cl}(h:OkM m) (c:Nat):(m[c]!.stk.map (·.id)).Nodup:=by
 by_cases q : c < m.length
 ·exact (h.at q).d
 ·rw [getElem!_neg m c q]; exact List.nodup_nil
theorem Ln.step (he:cY pts a k){v w:Nat}(h:Ln ts pts a v w) (hv:aM pts[a]! ≠ (v:Int)) (hv2:aP ts pts[a]! v ≠ 2) (hw:aM pts[a]! ≠ (w:Int)) (hw2:aP ts pts[a]! w ≠ 2):Ln ts pts k v w:=by
 obtain ⟨L,h1,h2,h3,h4⟩ := h
 refine ⟨L,.step h1 ⟨rfl,he,.inl ⟨hv,rfl,hv2⟩⟩,.step h2 ⟨rfl,he,?_,?_⟩,h3,h4⟩
 ·rw [h3]; exact hw2
 ·rw [h3]; exact hw
theorem RfI.fin (he:cY pts a k){sl sl':List Sl}{m':List Cl}{y:Sl}(hm:OkM m') (hs:∀ v,v < ts.length → sl'[v]! = if aM pts[a]! = (v:Int) then y else if aP ts pts[a]! v = 2 then gP else sl[v]!)
  (R : RfI ts (Kp ts pts a) (Ln ts pts a) sl m')
  (hX : ∀ v : Nat,aM pts[a]! = (v : Int) → v < ts.length → 3 ≤ ts[v]! → m'[gL sl' v]!.alive = true ∧ jB ts sl' v ∈ m'[gL sl' v]!.stk)
  (hXw : ∀ v w : Nat,aM pts[a]! = (v : Int) → v < ts.length → w < ts.length → 3 ≤ ts[v]! → (ts[w]! = 2 ∨ ts[w]! = 4) → aM pts[a]! ≠ (w : Int) → aP ts pts[a]! w ≠ 2 → sl[w]!.set = true → sl'[w]! = sl[w]! → gL sl' v = gL sl' w → [jB ts sl' w,jB ts sl' v].Sublist m'[gL sl' v]!.stk → Ln ts pts k v w)
  (hvX : ∀ v w : Nat,aM pts[a]! = (w : Int) → v < ts.length → w < ts.length → 3 ≤ ts[v]! → (ts[w]! = 2 ∨ ts[w]! = 4) → Kp ts pts a v → sl[v]!.set = true → sl'[v]! = sl[v]! → gL sl' v = gL sl' w → ¬ [jB ts sl' w,jB ts sl' v].Sublist m'[gL sl' v]!.stk) :
  RfI ts (fun v => Nd ts pts (k,v)) (Ln ts pts k) sl' m' := by
 have old : ∀ v, v < ts.length → sl'[v]!.set = true → aM pts[a]! ≠ (v : Int) → aP ts pts[a]! v ≠ 2 ∧ sl'[v]! = sl[v]! := fun v hv h1 h2 => by
  have e := hs v hv
  rw [if_neg h2] at e
  by_cases q : aP ts pts[a]! v = 2
  ·rw [if_pos q] at e;rw [e] at h1;cases h1
  ·rw [if_neg q] at e;exact ⟨q,e⟩
 refine ⟨fun v h1 h2 h3 h4 => ?_,fun v w h1 h2 h3 h4 h5 h6 h7 h8 h9 => ?_⟩
 ·by_cases q : aM pts[a]! = (v : Int)
  ·exact hX v q h1 h2
  ·obtain ⟨q2, e⟩ := old v h1 h3 q
   have := R.l v h1 h2 (by rw [← e]; exact h3) ⟨⟨k,he,h4⟩,q,q2⟩
   unfold gL jB at this ⊢
   rw [e]; exact this
 ·by_cases q : aM pts[a]! = (v : Int)
  ·by_cases q' : aM pts[a]! = (w : Int)
   ·exfalso
    have e : v = w := by omega
    subst e
    exact OI (PE hm _) h9 rfl
   ·obtain ⟨q2, e⟩ := old w h2 h6 q'
    exact hXw v w q h1 h2 h3 h4 q' q2 (by rw [← e]; exact h6) e h8 h9
  ·obtain ⟨q2, e⟩ := old v h1 h5 q
   have hk : Kp ts pts a v := ⟨⟨k,he,h7⟩,q,q2⟩
   by_cases q' : aM pts[a]! = (w : Int)
   ·exact absurd h9 (hvX v w q' h1 h2 h3 h4 hk (by rw [← e]; exact h5) e h8)
   ·obtain ⟨q3, e'⟩ := old w h2 h6 q'
    refine Ln.step he (R.c v w h1 h2 h3 h4 (by rw [← e]; exact h5) (by rw [← e']; exact h6) hk ?_ ?_) q q2 q' q3
    ·unfold gL at h8 ⊢; rw [e,e'] at h8;exact h8
    ·unfold gL jB at h9 ⊢; rw [e,e'] at h9;exact h9
theorem RfI.fin1 (he:cY pts a k){sl sl':List Sl}{m':List Cl}{y:Sl}(hm:OkM m') (hs:∀ v,v < ts.length → sl'[v]! = if aM pts[a]! = (v:Int) then y else if aP ts pts[a]! v = 2 then gP else sl[v]!)
  (R : RfI ts (Kp ts pts a) (Ln ts pts a) sl m') (h1 : ∀ v : Nat,aM pts[a]! = (v : Int) → v < ts.length → ts[v]! = 1) : RfI ts (fun v => Nd ts pts (k,v)) (Ln ts pts k) sl' m' :=
 RfI.fin he hm hs R (fun v e hv h3 => by have := h1 v e hv;omega) (fun v w e hv _ h3 => by have := h1 v e hv;omega) (fun v w e _ hw _ h3 => by have := h1 w e hw;omega)
theorem pR (ts:List Int) (s:Mc) (v:Nat) (x:Sl):(bK ts s v x).1.cells = if ts[v]! = 2 ∧ s.slots[v]!.set = true then g8 s.cells s.slots[v]!.ptr else s.cells:=by
 unfold bK;split <;> rfl
theorem RfI.put (V:Vs ts pts a s) (B:Bs ts N s){m:List Cl}(hm:OkM m) (hd:Hd m) (R:RfI ts (Kp ts pts a) (Ln ts pts a) s.slots m) (hl:s.cells.length ≤ m.length) (hal:∀ c,c < s.cells.length → m[c]!.alive = s.cells[c]!.alive) (hC:∀ L,¬ Cf ts pts a L){X:Nat}(hX:X < ts.length) (hset:aM pts[a]! = (X:Int)) :
  RfI ts (Kp ts pts a) (Ln ts pts a) s.slots (if ts[X]! = 2 ∧ s.slots[X]!.set = true then g8 m s.slots[X]!.ptr else m) := by
 split
 ·rename_i q
  obtain ⟨b1,b2,b3,b4⟩ := B.w.o X hX q.1 q.2
  refine R.fr hd (fun _ h => h) (fun v h1 h2 h3 => (B.f v h1 h2 h3).2.2.1) hX q.1 q.2 (H8 hm hd ⟨b1,by omega⟩ b3 ?_ true) b3 fun v hv hg => ?_
  ·rw [hal _ (by omega)]; exact b4
  ·exact rJ hC (.inr (.inr (.inr (.inr ⟨hset,q.1,V.m X hX q.2,rfl⟩)))) v hv hg (.inl rfl)
 ·exact R
end
end Go.AL
