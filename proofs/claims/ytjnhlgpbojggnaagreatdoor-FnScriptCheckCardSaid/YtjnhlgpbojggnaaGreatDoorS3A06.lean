/-
 A part of the proofs over this program: rules and contracts of its functions (the rules).
-/
import Derived.Test.YtjnhlgpbojggnaaGreatDoorS3A05
set_option linter.unusedVariables false
set_option linter.unusedSimpArgs false
namespace Go.AL
open Go.RowKit
abbrev opU (a s : Nat) : Nat := a ||| s
abbrev opI (a s : Nat) : Nat := a &&& s
def bstp (op : Nat → Nat → Nat) (s0 : Nat) (s : List Nat × Bool) (k : Nat) : List Nat × Bool :=
 if op s.1[k]! s0 ≠ s.1[k]! then (s.1.set k (op s.1[k]! s0),true) else s
def nxN (pts : List Pnt) (i : Nat) : List Nat := pts[i]!.next.map (·.toNat)
def innG (op : Nat → Nat → Nat) (F : Nat → Nat → Nat) (pts : List Pnt) (s : List Nat × Bool) (i : Nat) : List Nat × Bool := (nxN pts i).foldl (bstp op (F i s.1[i]!)) s
def swpG (op : Nat → Nat → Nat) (F : Nat → Nat → Nat) (pts : List Pnt) (s : List Nat × Bool) : List Nat × Bool := (List.range pts.length).foldl (innG op F pts) s
theorem getB_set {α:Type}[Inhabited α] (l:List α) (k i:Nat) (x:α) (h:k < l.length):(l.set k x)[i]! = if i = k then x else l[i]!:=by
 by_cases e : i = k
 ·subst e;rw [if_pos rfl,getB _ _ (by simpa using h),List.getElem_set_self]
 ·rw [if_neg e]
  simp only [List.getElem!_eq_getElem?_getD,List.getElem?_set_ne (Ne.symm e)]
theorem mem_nxN {ts:List Int}{pts:List Pnt}(w:WG ts pts){i k:Nat}(hi:i < pts.length):k ∈ nxN pts i ↔ edge pts i k:=by
 unfold nxN edge
 rw [List.mem_map]
 constructor
 ·rintro ⟨z, hz, rfl⟩
  have := w.nx i hi z hz
  exact ⟨hi,by rw [Int.toNat_of_nonneg this.1]; exact hz⟩
 ·rintro ⟨_,h⟩; exact ⟨_,h,rfl⟩
theorem edge_lt {ts:List Int}{pts:List Pnt}(w:WG ts pts){i k:Nat}(h:edge pts i k):k < pts.length:=by
 have := w.nx i h.1 _ h.2;omega
structure Flow (op : Nat → Nat → Nat) (F : Nat → Nat → Nat) (pts : List Pnt) (g : Nat → Nat) (Pp : Nat → Nat → Prop) : Prop where
 snd : ∀ i k A B,edge pts i k → Pp i A → Pp k B → Pp k (op B (F i A))
 dec : ∀ i k A B,edge pts i k → Pp i A → Pp k B → op B (F i A) ≠ B → g (op B (F i A)) < g B
def SG (pts : List Pnt) (Pp : Nat → Nat → Prop) (l : List Nat) : Prop := l.length = pts.length ∧ ∀ i,i < pts.length → Pp i l[i]!
theorem bstp_law {op:Nat → Nat → Nat}{F:Nat → Nat → Nat}{pts:List Pnt}{g:Nat → Nat}{Pp:Nat → Nat → Prop}(f:Flow op F pts g Pp){i k A:Nat}(hA:Pp i A) (e:edge pts i k) (hk:k < pts.length) (s:List Nat) (b:Bool) (h:SG pts Pp s) :
  SG pts Pp (bstp op (F i A) (s,b) k).1 ∧ ((bstp op (F i A) (s,b) k = (s,b) ∧ op s[k]! (F i A) = s[k]!) ∨ ((bstp op (F i A) (s,b) k).2 = true ∧ sumL ((bstp op (F i A) (s,b) k).1.map g) < sumL (s.map g))) := by
 unfold bstp
 dsimp only
 have hks : k < s.length := by rw [h.1]; exact hk
 by_cases hc : op s[k]! (F i A) ≠ s[k]!
 ·rw [if_pos hc]
  refine ⟨⟨by simp [h.1],fun j hj => ?_⟩,.inr ⟨rfl,?_⟩⟩
  ·dsimp only
   rw [getB_set _ _ _ _ hks]
   split
   ·rename_i q;subst q;exact f.snd _ _ _ _ e hA (h.2 j hj)
   ·exact h.2 j hj
  ·have := sumL_set g s k (op s[k]! (F i A)) hks
   have h2 := f.dec i k A s[k]! e hA (h.2 k hk) hc
   dsimp only;omega
 ·rw [if_neg hc]
  exact ⟨h,.inl ⟨rfl,by simpa using hc⟩⟩
theorem innG_law {ts:List Int}{op:Nat → Nat → Nat}{F:Nat → Nat → Nat}{pts:List Pnt}{g:Nat → Nat}{Pp:Nat → Nat → Prop}(w:WG ts pts) (f:Flow op F pts g Pp) (s:List Nat) (b:Bool) (i:Nat) (hi:i < pts.length) (h:SG pts Pp s) :
  SG pts Pp (innG op F pts (s,b) i).1 ∧ ((innG op F pts (s,b) i = (s,b) ∧ ∀ k,edge pts i k → op s[k]! (F i s[i]!) = s[k]!) ∨ ((innG op F pts (s,b) i).2 = true ∧ sumL ((innG op F pts (s,b) i).1.map g) < sumL (s.map g))) := by
 have hA := h.2 i hi
 have := fold_law (bstp op (F i s[i]!)) (fun k l => op l[k]! (F i s[i]!) = l[k]!) (fun l => sumL (l.map g)) (SG pts Pp) (nxN pts i)
  (fun s' b' k hk hs => by
   have e := (mem_nxN w hi).1 hk
   exact bstp_law f hA e (edge_lt w e) s' b' hs) s b h
 refine ⟨this.1,?_⟩
 rcases this.2 with ⟨e1,e2⟩|h2
 ·exact .inl ⟨e1,fun k e => e2 k ((mem_nxN w hi).2 e)⟩
 ·exact .inr h2
def ClosedG (op : Nat → Nat → Nat) (F : Nat → Nat → Nat) (pts : List Pnt) (s : List Nat) : Prop := ∀ i k,edge pts i k → op s[k]! (F i s[i]!) = s[k]!
theorem swpG_law {ts:List Int}{op:Nat → Nat → Nat}{F:Nat → Nat → Nat}{pts:List Pnt}{g:Nat → Nat}{Pp:Nat → Nat → Prop}(w:WG ts pts) (f:Flow op F pts g Pp) (s:List Nat) (b:Bool) (h:SG pts Pp s) :
  SG pts Pp (swpG op F pts (s,b)).1 ∧ ((swpG op F pts (s,b) = (s,b) ∧ ClosedG op F pts s) ∨ ((swpG op F pts (s,b)).2 = true ∧ sumL ((swpG op F pts (s,b)).1.map g) < sumL (s.map g))) := by
 have := fold_law (innG op F pts) (fun i l => ∀ k, edge pts i k → op l[k]! (F i l[i]!) = l[k]!) (fun l => sumL (l.map g)) (SG pts Pp) (List.range pts.length)
  (fun s' b' i hi hs => innG_law w f s' b' i (List.mem_range.1 hi) hs) s b h
 refine ⟨this.1,?_⟩
 rcases this.2 with ⟨e1,e2⟩|h2
 ·exact .inl ⟨e1,fun i k e => e2 i (List.mem_range.2 e.1) k e⟩
 ·exact .inr h2
theorem or_lt_of_ne {a b:Nat}(h:a ||| b ≠ a):a < a ||| b:=by
 have := @Nat.left_le_or a b;omega
theorem and_lt_of_ne {a b:Nat}(h:a &&& b ≠ a):a &&& b < a:=by
 have := @Nat.and_le_left a b;omega
theorem or_eq_iff {a b:Nat}:a ||| b = a ↔ ∀ v,b.testBit v = true → a.testBit v = true:=by
 constructor
 ·intro h v hv;rw [← h,Nat.testBit_or,hv]; simp
 ·intro h
  apply Nat.eq_of_testBit_eq;intro v
  rw [Nat.testBit_or]
  cases hb : b.testBit v with
  | false => simp
  | true => rw [h v hb]; rfl
theorem and_eq_iff {a b:Nat}:a &&& b = a ↔ ∀ v,a.testBit v = true → b.testBit v = true:=by
 constructor
 ·intro h v hv;rw [← h,Nat.testBit_and,Bool.and_eq_true] at hv;exact hv.2
 ·intro h
  apply Nat.eq_of_testBit_eq;intro v
  rw [Nat.testBit_and]
  cases ha : a.testBit v with
  | false => simp
  | true => rw [h v ha]; rfl
theorem lt_of_bits {a n:Nat}(h:a < 2 ^ n){v:Nat}(hv:a.testBit v = true):v < n:=by
 rcases Nat.lt_or_ge v n with h1|h1
 ·exact h1
 ·rw [Nat.testBit_lt_two_pow (Nat.lt_of_lt_of_le h (Nat.pow_le_pow_right (by decide) h1))] at hv;cases hv
theorem useAt_range {ts:List Int}{pts:List Pnt}(w:WG ts pts){i:Nat}(hi:i < pts.length){v:Nat}(h:useAt ts pts[i]! v ≠ 0):v < ts.length:=by
 have h1 := w.x i hi
 have h2 := w.y i hi
 unfold useAt at h
 grind
theorem testBit_wS {ts:List Int}{x:Pnt}{us:List Int}{v:Nat}:(wS ts x us).testBit v = (decide (v < ts.length) && decide (useAt ts x v ∈ us)) := testBit_mkBits _ _ _
theorem testBit_sbit {x:Pnt}{v:Nat}(h:setAt x < 62):(sbit x).testBit v = decide (setAt x = (v:Int)):=by
 unfold sbit
 split
 ·rename_i h0
  by_cases e : v = (setAt x).toNat
  ·subst e;rw [Nat.testBit_two_pow_self]; simp;omega
  ·rw [Nat.testBit_two_pow_of_ne (fun h => e h.symm)]; simp;omega
 ·simp;omega
theorem testBit_valF {ts:List Int}{x:Pnt}{A v:Nat}(h:setAt x < 62):(valF ts x A).testBit v = ((A.testBit v && !(decide (v < ts.length) && decide (useAt ts x v = 2))) || decide (setAt x = (v:Int))):=by
 unfold valF
 rw [Nat.testBit_or,testBit_anl,testBit_wS,testBit_sbit h]
 simp
def GoodM (ts : List Int) (pts : List Pnt) (A : List Nat) : Prop := A.length = pts.length ∧ ∀ i,i < pts.length → ∀ v,A[i]!.testBit v = true ↔ Mb ts pts (i,v)
def GoodA (ts : List Int) (pts : List Pnt) (A : List Nat) : Prop := A.length = pts.length ∧ ∀ i,i < pts.length → ∀ v,A[i]!.testBit v = true ↔ v < ts.length ∧ ¬ Na ts pts (i,v)
theorem ext_bits {n:Nat}{A B:List Nat}(h1:A.length = n) (h2:B.length = n) (h:∀ i,i < n → ∀ v,A[i]!.testBit v = true ↔ B[i]!.testBit v = true):A = B:=by
 apply List.ext_getElem (by omega)
 intro i g1 g2
 have := h i (by omega)
 rw [getB _ _ g1,getB _ _ g2] at this
 apply Nat.eq_of_testBit_eq
 intro v
 rw [Bool.eq_iff_iff]; exact this v
def PpM (ts : List Int) (pts : List Pnt) (i A : Nat) : Prop := A < 2 ^ ts.length ∧ ∀ v,A.testBit v = true → Mb ts pts (i,v)
def PpA (ts : List Int) (pts : List Pnt) (i A : Nat) : Prop := A < 2 ^ ts.length ∧ ∀ v,v < ts.length → A.testBit v = false → Na ts pts (i,v)
theorem valF_lt {ts:List Int}{pts:List Pnt}(w:WG ts pts){i:Nat}(hi:i < pts.length){A:Nat}(hA:A < 2 ^ ts.length):valF ts pts[i]! A < 2 ^ ts.length:=by
 apply Nat.lt_pow_two_of_testBit
 intro v hv
 have hs := (w.set i hi).1
 have htl := w.tl
 rw [testBit_valF (by omega)]
 have : A.testBit v = false := by
  cases h : A.testBit v with
  | false => rfl
  | true => have := lt_of_bits hA h;omega
 rw [this,Bool.false_and,Bool.false_or,decide_eq_false_iff_not]; omega
theorem flowM {ts:List Int}{pts:List Pnt}(w:WG ts pts):Flow (fun a s => a ||| s) (fun i A => valF ts pts[i]! A) pts (fun a => 2 ^ ts.length - a) (PpM ts pts):=by
 refine ⟨fun i k A B e hA hB => ⟨Nat.or_lt_two_pow hB.1 (valF_lt w e.1 hA.1),fun v hv => ?_⟩,fun i k A B e hA hB hne => ?_⟩
 ·have hs := (w.set i e.1).1
  have htl := w.tl
  rw [Nat.testBit_or,Bool.or_eq_true] at hv
  rcases hv with hv|hv
  ·exact hB.2 v hv
  ·rw [testBit_valF (by omega)] at hv
   simp only [Bool.or_eq_true,Bool.and_eq_true,Bool.not_eq_true',Bool.and_eq_false_iff,decide_eq_true_eq,decide_eq_false_iff_not] at hv
   rcases hv with ⟨h1,h2⟩|h1
   ·refine .step (hA.2 v h1) ⟨rfl, e, ?_⟩
    have := lt_of_bits hA.1 h1
    rcases h2 with h2|h2
    ·omega
    ·exact h2
   ·exact .base ⟨i,e,h1⟩
 ·have h1 := or_lt_of_ne hne
  have h2 := Nat.or_lt_two_pow hB.1 (valF_lt w e.1 hA.1)
  omega
theorem flowA {ts:List Int}{pts:List Pnt}(w:WG ts pts):Flow (fun a s => a &&& s) (fun i A => valF ts pts[i]! A) pts (fun a => a) (PpA ts pts):=by
 refine ⟨fun i k A B e hA hB => ⟨Nat.lt_of_le_of_lt Nat.and_le_left hB.1,fun v hv hf => ?_⟩,fun i k A B e hA hB hne => and_lt_of_ne hne⟩
 have hs := (w.set i e.1).1
 have htl := w.tl
 rw [Nat.testBit_and,Bool.and_eq_false_iff] at hf
 rcases hf with hf|hf
 ·exact hB.2 v hv hf
 ·rw [testBit_valF (by omega)] at hf
  simp only [Bool.or_eq_false_iff,Bool.and_eq_false_iff,Bool.not_eq_false',Bool.and_eq_true,decide_eq_true_eq,decide_eq_false_iff_not] at hf
  obtain ⟨h1|h1,h2⟩ := hf
  ·exact .step (hA.2 v hv h1) ⟨rfl,e,h2⟩
  ·exact .base ⟨hv,.inr ⟨i,e,h1.2,h2⟩⟩
theorem goodM_of {ts:List Int}{pts:List Pnt}(w:WG ts pts){A:List Nat}(h:SG pts (PpM ts pts) A) (hc:ClosedG (fun a s => a ||| s) (fun i A => valF ts pts[i]! A) pts A):GoodM ts pts A:=by
 refine ⟨h.1,fun i hi v => ⟨fun hv => (h.2 i hi).2 v hv,fun hm => ?_⟩⟩
 have htl := w.tl
 have key : ∀ a : Nat × Nat, Mb ts pts a → A[a.1]!.testBit a.2 = true := by
  refine Clo.sub (T := fun a : Nat × Nat => A[a.1]!.testBit a.2 = true) ?_ ?_
  ·rintro ⟨k, v⟩ ⟨i, e, hs⟩
   have h1 := (w.set i e.1).1
   refine or_eq_iff.1 (hc i k e) v ?_
   rw [testBit_valF (by omega)]; simp only [Bool.or_eq_true,decide_eq_true_eq]; exact .inr hs
  ·rintro ⟨i, v⟩ ⟨k, v'⟩ ht ⟨rfl, e, hu⟩
   have h1 := (w.set i e.1).1
   refine or_eq_iff.1 (hc i k e) v' ?_
   dsimp only at ht hu
   rw [testBit_valF (by omega),ht]; grind
 exact key (i,v) hm
theorem goodA_of {ts:List Int}{pts:List Pnt}(w:WG ts pts){A:List Nat}(h:SG pts (PpA ts pts) A) (h0:A[0]! = 0) (hc:ClosedG (fun a s => a &&& s) (fun i A => valF ts pts[i]! A) pts A):GoodA ts pts A:=by
 refine ⟨h.1,fun i hi v => ?_⟩
 have htl := w.tl
 have key : ∀ a : Nat × Nat, Na ts pts a → A[a.1]!.testBit a.2 = false := by
  refine Clo.sub (T := fun a : Nat × Nat => A[a.1]!.testBit a.2 = false) ?_ ?_
  ·rintro ⟨k, v⟩ ⟨hv, h1 | ⟨i, e, hu, hs⟩⟩
   ·dsimp only at h1 ⊢; rw [h1,h0]; simp
   ·have h1 := (w.set i e.1).1
    dsimp only at hu hs hv ⊢
    cases hq : A[k]!.testBit v with
    | false => rfl
    | true =>
     have := and_eq_iff.1 (hc i k e) v hq
     rw [testBit_valF (by omega)] at this
     grind
  ·rintro ⟨i, v⟩ ⟨k, v'⟩ ht ⟨rfl, e, hs⟩
   have h1 := (w.set i e.1).1
   dsimp only at ht hs ⊢
   cases hq : A[k]!.testBit v' with
   | false => rfl
   | true =>
    have := and_eq_iff.1 (hc i k e) v' hq
    rw [testBit_valF (by omega),ht] at this
    grind
 constructor
 ·intro hv
  refine ⟨lt_of_bits (h.2 i hi).1 hv,fun hn => ?_⟩
  have := key (i,v) hn
  dsimp only at this;rw [hv] at this;cases this
 ·rintro ⟨hv, hn⟩
  cases hq : A[i]!.testBit v with
  | true => rfl
  | false => exact absurd ((h.2 i hi).2 v hv hq) hn
theorem sm_all {ts:List Int}{pts:List Pnt}{Pp:Nat → Nat → Prop}{l:List Nat}(h:SG pts Pp l) (hp:∀ i A,Pp i A → A < 2 ^ ts.length) (htl:ts.length ≤ 6) (z:Nat):Sm l[z]!:=by
 by_cases hz : z < pts.length
 ·exact ⟨Nat.lt_of_lt_of_le (hp _ _ (h.2 z hz)) (Nat.pow_le_pow_right (by decide) (by omega))⟩
 ·rw [getElem!_neg _ _ (by rw [h.1]; exact hz)]; exact ⟨by decide⟩
theorem nxN_get {pts:List Pnt}{i j:Nat}(h:j < pts[i]!.next.length):(nxN pts i)[j]! = (pts[i]!.next[j]!).toNat:=by
 unfold nxN
 rw [getB _ _ (by simpa using h),getB _ _ h,List.getElem_map]
theorem range_succ_foldl {σ:Type}(f:σ → Nat → σ) (s:σ) (k:Nat):(List.range (k + 1)).foldl f s = f ((List.range k).foldl f s) k:=by
 rw [List.range_succ,List.foldl_append]; rfl
theorem bstp_take {op:Nat → Nat → Nat}{s0:Nat}{pts:List Pnt}{i j:Nat}(h:j < pts[i]!.next.length) (s:List Nat × Bool) :
  ((nxN pts i).take (j + 1)).foldl (bstp op s0) s = bstp op s0 (((nxN pts i).take j).foldl (bstp op s0) s) (pts[i]!.next[j]!).toNat := by
 have hl : j < (nxN pts i).length := by unfold nxN;simpa using h
 rw [foldl_take _ _ _ _ hl,nxN_get h]
theorem nxN_len (pts:List Pnt) (i:Nat):(nxN pts i).length = pts[i]!.next.length := by unfold nxN;simp
theorem bstp_1 {op:Nat → Nat → Nat}{s0:Nat}{s:List Nat}{b:Bool}{k:Nat}(h:op s[k]! s0 ≠ s[k]!):bstp op s0 (s,b) k = (s.set k (op s[k]! s0),true) := by unfold bstp;rw [if_pos h]
theorem bstp_0 {op:Nat → Nat → Nat}{s0:Nat}{s:List Nat}{b:Bool}{k:Nat}(h:op s[k]! s0 = s[k]!):bstp op s0 (s,b) k = (s,b) := by unfold bstp;rw [if_neg (fun hc => hc h)]
theorem SG_step {op:Nat → Nat → Nat}{F:Nat → Nat → Nat}{pts:List Pnt}{g:Nat → Nat}{Pp:Nat → Nat → Prop}(f:Flow op F pts g Pp){ts:List Int}(w:WG ts pts){i k A:Nat}(hA:Pp i A) (e:edge pts i k){s:List Nat}(h:SG pts Pp s):SG pts Pp (s.set k (op s[k]! (F i A))):=by
 refine ⟨by simp [h.1],fun j hj => ?_⟩
 rw [getB_set _ _ _ _ (by rw [h.1]; exact edge_lt w e)]
 split
 ·rename_i q;subst q;exact f.snd _ _ _ _ e hA (h.2 j hj)
 ·exact h.2 j hj
theorem SG_rep {pts:List Pnt}{Pp:Nat → Nat → Prop}(h:∀ i,i < pts.length → Pp i 0):SG pts Pp (List.replicate pts.length 0):=by
 refine ⟨by simp,fun i hi => ?_⟩
 rw [getB _ _ (by simpa using hi),List.getElem_replicate]; exact h i hi
theorem goodM_ext {ts:List Int}{pts:List Pnt}{A B:List Nat}(h1:GoodM ts pts A) (h2:GoodM ts pts B):A = B := ext_bits h1.1 h2.1 fun i hi v => (h1.2 i hi v).trans (h2.2 i hi v).symm
theorem goodA_ext {ts:List Int}{pts:List Pnt}{A B:List Nat}(h1:GoodA ts pts A) (h2:GoodA ts pts B):A = B := ext_bits h1.1 h2.1 fun i hi v => (h1.2 i hi v).trans (h2.2 i hi v).symm
theorem set_self {l:List Nat}{k x:Nat}(h:l[k]! = x) (hk:k < l.length):l.set k x = l:=by
 subst h;rw [getB _ _ hk]; exact List.set_getElem_self hk
theorem rep_set {n k a:Nat}(h:k < n):(List.replicate k a ++ List.replicate (n - k) 0).set k a = List.replicate (k + 1) a ++ List.replicate (n - (k + 1)) 0:=by
 rw [show n - k = (n - (k + 1)) + 1 by omega,List.replicate_succ]
 have := set_mid (List.replicate k a) 0 a (List.replicate (n - (k + 1)) 0)
 rw [List.length_replicate] at this
 rw [this,List.replicate_succ']; simp
theorem startA {ts:List Int}{pts:List Pnt}(w:WG ts pts){u:List Nat}(hu:u = List.replicate pts.length (2 ^ ts.length - 1)):SG pts (PpA ts pts) (u.set 0 0) ∧ (u.set 0 0)[0]! = 0:=by
 have hp0 := w.p0
 have h0 : 0 < u.length := by rw [hu]; simpa using hp0
 have hp : 0 < 2 ^ ts.length := Nat.pow_pos (by decide)
 refine ⟨⟨by simp [hu],fun i hi => ?_⟩,by rw [getB_set _ _ _ _ h0,if_pos rfl]⟩
 rw [getB_set _ _ _ _ h0]
 split
 ·rename_i e;subst e;exact ⟨hp,fun v hv _ => .base ⟨hv,.inl rfl⟩⟩
 ·rw [hu, getB _ _ (by simpa using hi), List.getElem_replicate]
  exact ⟨by omega,fun v hv hf => by rw [Nat.testBit_two_pow_sub_one] at hf;simp at hf;omega⟩
def afF (pts : List Pnt) (B : List Nat) (i : Nat) : Nat := (nxN pts i).foldl (fun a k => a ||| B[k]!) 0
def ndS (ts : List Int) (pts : List Pnt) (B : List Nat) (i : Nat) : Nat := wS ts pts[i]! [1,2,3] ||| anl (afF pts B i) (sbit pts[i]!)
theorem testBit_foldor (B:List Nat) (v:Nat):∀ (L:List Nat) (a:Nat),(L.foldl (fun a k => a ||| B[k]!) a).testBit v = true ↔ a.testBit v = true ∨ ∃ k ∈ L,B[k]!.testBit v = true
 | [],a => by simp
 | k :: L, a => by
  rw [List.foldl_cons,testBit_foldor B v L,Nat.testBit_or,Bool.or_eq_true]
  simp only [List.mem_cons,exists_eq_or_imp]
  grind
theorem testBit_afF {ts:List Int}{pts:List Pnt}(w:WG ts pts){B:List Nat}{i v:Nat}(hi:i < pts.length):(afF pts B i).testBit v = true ↔ ∃ k,edge pts i k ∧ B[k]!.testBit v = true:=by
 unfold afF
 rw [testBit_foldor]
 simp only [Nat.zero_testBit,Bool.false_eq_true,false_or,mem_nxN w hi]
theorem testBit_ndS {ts:List Int}{pts:List Pnt}(w:WG ts pts){B:List Nat}{i v:Nat}(hi:i < pts.length):(ndS ts pts B i).testBit v = true ↔ (v < ts.length ∧ useAt ts pts[i]! v ≠ 0) ∨ (setAt pts[i]! ≠ v ∧ ∃ k,edge pts i k ∧ B[k]!.testBit v = true):=by
 have hs := (w.set i hi).1
 have htl := w.tl
 have hb := useAt_bd ts pts[i]! v
 unfold ndS
 rw [Nat.testBit_or,testBit_anl,testBit_wS,testBit_sbit (by omega)]
 simp only [Bool.or_eq_true,Bool.and_eq_true,decide_eq_true_eq,Bool.not_eq_true',decide_eq_false_iff_not,testBit_afF w hi,List.mem_cons,List.not_mem_nil,or_false]
 have : (useAt ts pts[i]! (v : Int) = 1 ∨ useAt ts pts[i]! (v : Int) = 2 ∨ useAt ts pts[i]! (v : Int) = 3) ↔ useAt ts pts[i]! (v : Int) ≠ 0 := by omega
 rw [this]
 constructor
 ·rintro (h | ⟨h1, h2⟩)
  ·exact .inl h
  ·exact .inr ⟨h2,h1⟩
 ·rintro (h | ⟨h1, h2⟩)
  ·exact .inl h
  ·exact .inr ⟨h2,h1⟩
def PpN (ts : List Int) (pts : List Pnt) (i A : Nat) : Prop := A < 2 ^ ts.length ∧ ∀ v,A.testBit v = true → Nd ts pts (i,v)
def GoodN (ts : List Int) (pts : List Pnt) (A : List Nat) : Prop := A.length = pts.length ∧ ∀ i,i < pts.length → ∀ v,A[i]!.testBit v = true ↔ Nd ts pts (i,v)
theorem goodN_ext {ts:List Int}{pts:List Pnt}{A B:List Nat}(h1:GoodN ts pts A) (h2:GoodN ts pts B):A = B := ext_bits h1.1 h2.1 fun i hi v => (h1.2 i hi v).trans (h2.2 i hi v).symm
def ndStp (ts : List Int) (pts : List Pnt) (s : List Nat × Bool) (i : Nat) : List Nat × Bool := if ndS ts pts s.1 i ≠ s.1[i]! then (s.1.set i (ndS ts pts s.1 i),true) else s
def SN (ts : List Int) (pts : List Pnt) (l : List Nat) : Prop := SG pts (PpN ts pts) l ∧ ∀ i,i < pts.length → ∀ v,l[i]!.testBit v = true → (ndS ts pts l i).testBit v = true
theorem ndS_mono {ts:List Int}{pts:List Pnt}(w:WG ts pts){l l':List Nat}{i:Nat}(hi:i < pts.length) (h:∀ k,k < pts.length → ∀ v,l[k]!.testBit v = true → l'[k]!.testBit v = true){v:Nat}(hv:(ndS ts pts l i).testBit v = true):(ndS ts pts l' i).testBit v = true:=by
 rw [testBit_ndS w hi] at hv ⊢
 rcases hv with hv | ⟨h1,k,e,h2⟩
 ·exact .inl hv
 ·exact .inr ⟨h1,k,e,h k (edge_lt w e) v h2⟩
theorem ndS_snd {ts:List Int}{pts:List Pnt}(w:WG ts pts){l:List Nat}{i:Nat}(hi:i < pts.length) (h:SG pts (PpN ts pts) l):PpN ts pts i (ndS ts pts l i):=by
 have key : ∀ v, (ndS ts pts l i).testBit v = true → v < ts.length ∧ Nd ts pts (i, v) := by
  intro v hv
  rw [testBit_ndS w hi] at hv
  rcases hv with ⟨h1,h2⟩ | ⟨h1,k,e,h2⟩
  ·exact ⟨h1,.base ⟨hi,h1,h2⟩⟩
  ·have hk := h.2 k (edge_lt w e)
   exact ⟨lt_of_bits hk.1 h2,.step (hk.2 v h2) ⟨rfl,e,h1⟩⟩
 refine ⟨?_,fun v hv => (key v hv).2⟩
 apply Nat.lt_pow_two_of_testBit
 intro v hv
 cases hq : (ndS ts pts l i).testBit v with
 | false => rfl
 | true => have := (key v hq).1;omega
theorem ndStp_law {ts:List Int}{pts:List Pnt}(w:WG ts pts) (s:List Nat) (b:Bool) (i:Nat) (hi:i < pts.length) (h:SN ts pts s) :
  SN ts pts (ndStp ts pts (s,b) i).1 ∧ ((ndStp ts pts (s,b) i = (s,b) ∧ ndS ts pts s i = s[i]!) ∨ ((ndStp ts pts (s,b) i).2 = true ∧ sumL ((ndStp ts pts (s,b) i).1.map (fun a => 2 ^ ts.length - a)) < sumL (s.map (fun a => 2 ^ ts.length - a)))) := by
 unfold ndStp
 dsimp only
 have his : i < s.length := by rw [h.1.1]; exact hi
 by_cases hc : ndS ts pts s i ≠ s[i]!
 ·rw [if_pos hc]
  have hp := ndS_snd w hi h.1
  have hge : ∀ k, k < pts.length → ∀ v, s[k]!.testBit v = true → ((s.set i (ndS ts pts s i))[k]!).testBit v = true := by
   intro k hk v hv
   rw [getB_set _ _ _ _ his]
   split
   ·rename_i q;subst q;exact h.2 _ hk v hv
   ·exact hv
  refine ⟨⟨⟨by simp [h.1.1],fun j hj => ?_⟩,fun j hj v hv => ?_⟩,.inr ⟨rfl,?_⟩⟩
  ·rw [getB_set _ _ _ _ his]
   split
   ·rename_i q;subst q;exact hp
   ·exact h.1.2 j hj
  ·rw [getB_set _ _ _ _ his] at hv
   split at hv
   ·rename_i q;subst q;exact ndS_mono w hj hge hv
   ·exact ndS_mono w hj hge (h.2 j hj v hv)
  ·have h1 := sumL_set (fun a => 2 ^ ts.length - a) s i (ndS ts pts s i) his
   have h2 : s[i]! ||| ndS ts pts s i = ndS ts pts s i := by rw [Nat.or_comm]; exact or_eq_iff.2 (h.2 i hi)
   have h3 : s[i]! < ndS ts pts s i := by
    have : s[i]! ≤ ndS ts pts s i := by rw [← h2]; exact Nat.left_le_or
    omega
   have h4 := hp.1
   dsimp only at h1 ⊢; omega
 ·rw [if_neg hc]
  exact ⟨h,.inl ⟨rfl,by simpa using hc⟩⟩
def ndSwp (ts : List Int) (pts : List Pnt) (s : List Nat × Bool) : List Nat × Bool := (List.range pts.length).reverse.foldl (ndStp ts pts) s
theorem ndSwp_law {ts:List Int}{pts:List Pnt}(w:WG ts pts) (s:List Nat) (b:Bool) (h:SN ts pts s) :
  SN ts pts (ndSwp ts pts (s,b)).1 ∧ ((ndSwp ts pts (s,b) = (s,b) ∧ ∀ i,i < pts.length → ndS ts pts s i = s[i]!) ∨ ((ndSwp ts pts (s,b)).2 = true ∧ sumL ((ndSwp ts pts (s,b)).1.map (fun a => 2 ^ ts.length - a)) < sumL (s.map (fun a => 2 ^ ts.length - a)))) := by
 have := fold_law (ndStp ts pts) (fun i l => ndS ts pts l i = l[i]!) (fun l => sumL (l.map (fun a => 2 ^ ts.length - a))) (SN ts pts) (List.range pts.length).reverse
  (fun s' b' i hi hs => ndStp_law w s' b' i (List.mem_range.1 (List.mem_reverse.1 hi)) hs) s b h
 refine ⟨this.1,?_⟩
 rcases this.2 with ⟨e1,e2⟩|h2
 ·exact .inl ⟨e1,fun i hi => e2 i (List.mem_reverse.2 (List.mem_range.2 hi))⟩
 ·exact .inr h2
theorem goodN_of {ts:List Int}{pts:List Pnt}(w:WG ts pts){A:List Nat}(h:SN ts pts A) (hc:∀ i,i < pts.length → ndS ts pts A i = A[i]!):GoodN ts pts A:=by
 refine ⟨h.1.1,fun i hi v => ⟨fun hv => (h.1.2 i hi).2 v hv,fun hm => ?_⟩⟩
 have key : ∀ a : Nat × Nat, Nd ts pts a → A[a.1]!.testBit a.2 = true := by
  refine Clo.sub (T := fun a : Nat × Nat => A[a.1]!.testBit a.2 = true) ?_ ?_
  ·rintro ⟨i, v⟩ ⟨h1, h2, h3⟩
   dsimp only at h1 h2 h3 ⊢
   rw [← hc i h1,testBit_ndS w h1]; exact .inl ⟨h2,h3⟩
  ·rintro ⟨n, v⟩ ⟨i, v'⟩ ht ⟨rfl, e, hs⟩
   dsimp only at ht hs e ⊢
   rw [← hc i e.1,testBit_ndS w e.1]; exact .inr ⟨hs,n,e,ht⟩
 exact key (i,v) hm
def GoodL (ts : List Int) (pts : List Pnt) (A : List Nat) : Prop := A.length = pts.length ∧ ∀ i,i < pts.length → ∀ v,A[i]!.testBit v = true ↔ Lv ts pts i v
theorem goodL_ext {ts:List Int}{pts:List Pnt}{A B:List Nat}(h1:GoodL ts pts A) (h2:GoodL ts pts B):A = B := ext_bits h1.1 h2.1 fun i hi v => (h1.2 i hi v).trans (h2.2 i hi v).symm
theorem goodL_of {ts:List Int}{pts:List Pnt}(w:WG ts pts){A:List Nat}(h:GoodN ts pts A):GoodL ts pts ((List.range pts.length).map (afF pts A)):=by
 refine ⟨by simp,fun i hi v => ?_⟩
 rw [getB _ _ (by simpa using hi),List.getElem_map,List.getElem_range,testBit_afF w hi]
 constructor
 ·rintro ⟨k,e,hk⟩; exact ⟨k,e,(h.2 k (edge_lt w e) v).1 hk⟩
 ·rintro ⟨k,e,hk⟩; exact ⟨k,e,(h.2 k (edge_lt w e) v).2 hk⟩
theorem revR_get {n k:Nat}(h:k < n):(List.range n).reverse[k]! = n - 1 - k:=by
 rw [getB _ _ (by simpa using h),List.getElem_reverse]; simp
theorem ndStp_1 {ts:List Int}{pts:List Pnt}{s:List Nat}{b:Bool}{i:Nat}(h:ndS ts pts s i ≠ s[i]!):ndStp ts pts (s,b) i = (s.set i (ndS ts pts s i),true) := by unfold ndStp;rw [if_pos h]
theorem ndStp_0 {ts:List Int}{pts:List Pnt}{s:List Nat}{b:Bool}{i:Nat}(h:ndS ts pts s i = s[i]!):ndStp ts pts (s,b) i = (s,b) := by unfold ndStp;rw [if_neg (fun hc => hc h)]
theorem SN_rep {ts:List Int}{pts:List Pnt}:SN ts pts (List.replicate pts.length 0):=by
 refine ⟨SG_rep fun i hi => ⟨Nat.pow_pos (by decide),fun v h => by simp at h⟩,fun i hi v h => ?_⟩
 rw [getB _ _ (by simpa using hi),List.getElem_replicate] at h;simp at h
theorem Nd_lt {ts:List Int}{pts:List Pnt}(w:WG ts pts){a:Nat × Nat}(h:Nd ts pts a):a.2 < ts.length:=by
 induction h with
 | base h => exact h.2.1
 | step _ r ih => rw [r.1]; exact ih
instance (a b : List AV) [h : Pur a] [h2 : Pur b] : Pur (a ++ b):=⟨by rw [pursB_append,h.pf,h2.pf]; rfl⟩
instance (fn : Go.Fn) (f c : List AV) [h : Pur f] [h2 : Pur c] : PurV (.clos fn f c):=⟨by simp only [AV.pur,h.pf,h2.pf,Bool.and_self]⟩
def cN (n : Nat) : List AV := [.v (.int .i64 (n : Int))]
def cW (n : Nat) : List AV := [.v (.int .u64 (n : Int))]
instance : FlT cN 1:=⟨fun _ => rfl⟩
instance : FlT cW 1:=⟨fun _ => rfl⟩
instance : FE cN (fun n => [.v (.int .i64 (n : Int))]):=⟨fun _ => rfl⟩
instance : FE cW (fun n => [.v (.int .u64 (n : Int))]):=⟨fun _ => rfl⟩
instance (n : Nat) : Pur (cN n):=⟨rfl⟩
instance (n : Nat) : Pur (cW n):=⟨rfl⟩
theorem st_nat {xs:List Nat}{k:Nat}{a:Nat}(hk:k < xs.length):spl (flat cN xs) (0 + k * 1) [.v (.int .i64 (a:Int))] = flat cN (xs.set k a) := st_flat0 hk rfl
theorem st_natW {xs:List Nat}{k:Nat}{a:Nat}(hk:k < xs.length):spl (flat cW xs) (0 + k * 1) [.v (.int .u64 (a:Int))] = flat cW (xs.set k a) := st_flat0 hk rfl
theorem app_nat {xs:List Nat}{m:Nat}{a:Nat}(hm:m = xs.length):((flat cN xs).drop 0).take (m * 1) ++ [.v (.int .i64 (a:Int))] = flat cN (xs ++ [a]) := app_flat hm rfl
theorem mk_rep {α:Type}{f:α → List AV}{x:α}{l:List AV}{m:Nat}(h:l = f x):(List.replicate m l).flatten = flat f (List.replicate m x):=by
 subst h;simp [flat,List.flatMap_def]
theorem mk_nat {m:Nat}:(List.replicate m ([Value.int .i64 0].map AV.v)).flatten = flat cN (List.replicate m 0) := mk_rep rfl
theorem mk_natW {m:Nat}:(List.replicate m ([Value.int .u64 0].map AV.v)).flatten = flat cW (List.replicate m 0) := mk_rep rfl
theorem mk_bool {m:Nat}:(List.replicate m ([Value.bool false].map AV.v)).flatten = flat cB (List.replicate m false) := mk_rep rfl
variable {P : Program} {N : Nat} {Q : Exit → AS → Prop} {all : Array Oper} {rest : List Oper} {ts : List (Nat × AV)} {hs : List (Nat × Option (List AV))} {n : Nat} {z0 : Lo} {md : Md}
variable {d : Nat} {ty : TypeId} {pos : String} {af : Array Edge}
section
theorem rx_makeSliceE {t el e by' m:Nat}{x y:Operand}{zs:List Value}{cs:List AV}{k k':IntKind}[ht:SlT P t el] [he:SzT P el e] [hb:ByT P el by'] [hz:ZrT P el zs]
  (hx : ev (lk ts) x = some (.v (.int k (m : Int)))) (hy : ev (lk ts) y = some (.v (.int k' (m : Int)))) (hze : zs.length = e) (hsm : by' * m ≤ 281474976710656) (hmx : m ≤ 9223372036854775807)
  (hcs : (List.replicate m (zs.map .v)).flatten = cs) (hM : Nat.blt n big = true) (hN : Nat.blt d N = true) {md' : Md} [hmd : MdA md (rO x ++ rO y) [.inr n,.inl d] md'] (kk : RW P N all Q md' rest ⟨(d,.own n 0 m e) :: ts,(n,some cs) :: hs,n + 1,z0⟩) :
  RW P N all Q md (⟨some d,.makeSlice t x y,ty,pos,af,none⟩ :: rest) ⟨ts,hs,n,z0⟩ := by
 subst hcs
 exact rx_makeSlice hx hy hze hsm hmx hM hN (md' := md') (hmd := hmd) kk
end
theorem lendL_nil {H:Nat → Option (List AV)}:lendL H [] = some [] := rfl
theorem lendL_cons {H:Nat → Option (List AV)}{c x:AV}{cs l:List AV}(h1:lendV H c = some x) (h2:lendL H cs = some l):lendL H (c :: cs) = some (x :: l):=by
 simp only [lendL,h1,h2]
theorem lendV_own {H:Nat → Option (List AV)}{i m e:Nat}{cs:List AV}(h:H i = some cs) (hp:Pur cs):lendV H (.own i 0 m e) = some (.imm m cs):=by
 simp only [lendV,h,Option.bind_some,hp.pf,if_true,List.drop_zero]
theorem lendV_v {H:Nat → Option (List AV)}{x:Value}:lendV H (.v x) = some (.v x) := rfl
theorem lendV_iptr {H:Nat → Option (List AV)}{cs:List AV}(hp:Pur cs):lendV H (.iptr cs) = some (.iptr cs) := by simp only [lendV,hp.pf,if_true]
section
theorem rx_lendE {k:FuncId}{args:Array Operand}{tys:Array TypeId}{avs avs2:List AV}{r:AV}{md':Md}[hc:CaT P k] (ha:evL (lk ts) args.toList = some avs) (hl:lendL (lkH hs) avs = some avs2) (h:PC P k avs2 (fun x => x = r)) (hfr:r.free = true) (hN:Nat.blt d N = true)
  (hmd : MdA md (rOs args.toList ++ rL avs) [.inl d] md') (kk : RW P N all Q md' rest ⟨(d,r) :: ts,hs,n,z0⟩) : RW P N all Q md (⟨some d,.call ⟨.value (.func k),args,tys⟩,ty,pos,af,none⟩ :: rest) ⟨ts,hs,n,z0⟩ := by
 exact rx_lend ha hl h hfr hN (hmd := hmd) kk
end
theorem ibin_and1 {k:IntKind}[hk:K6 k] (a:Nat) [ha:Sm a]:ibin .and k a 1 = some (.int k ((a &&& 1:Nat):Int)) := ibin_and a 1
section
theorem rx_and1 {k:IntKind}{t t':TypeId}{x y:Operand}{a:Nat}(hx:ev (lk ts) x = some (.v (.int k (a:Int)))) (hy:ev (lk ts) y = some (.v (.int k 1))) (hk:K6 k) (ha:Sm a)
  (hN : Nat.blt d N = true) {md' : Md} [hmd : MdA md (rO x ++ rO y) [.inl d] md'] (kk : RW P N all Q md' rest ⟨(d,.v (.int k ((a &&& 1 : Nat) : Int))) :: ts,hs,n,z0⟩) : RW P N all Q md (⟨some d,.binOp .and t x y t',ty,pos,af,none⟩ :: rest) ⟨ts,hs,n,z0⟩ :=
 rw_ibin hx hy (.inl rfl) (ibin_and1 a) (ltb hN) (by rw [hmd.pf]; exact kk)
end
theorem and1_iff (A v:Nat):((A >>> v &&& 1:Nat):Int) = 1 ↔ A.testBit v = true:=by
 rw [Nat.testBit,Nat.and_comm]
 have : 1 &&& (A >>> v) = (A >>> v) % 2 := by rw [Nat.and_comm,Nat.and_one_is_mod]
 rw [this]
 have := Nat.mod_two_eq_zero_or_one (A >>> v)
 simp only [bne_iff_ne,ne_eq]
 omega
def bitsI (A : Nat) : List Int := ((List.range 62).filter (A.testBit ·)).map (fun v : Nat => (v : Int))
theorem bitsI_pre {A k:Nat}(h:∀ v,k ≤ v → A.testBit v = false) (hk:k ≤ 64) (hA:Sm A):bitsI A = ((List.range k).filter (A.testBit ·)).map (fun v:Nat => (v:Int)):=by
 unfold bitsI
 congr 1
 have e : ∀ (a b : Nat), (∀ v, a ≤ v → v < a + b → A.testBit v = false) → (List.range (a + b)).filter (A.testBit ·) = (List.range a).filter (A.testBit ·) := by
  intro a b hb
  rw [List.range_add,List.filter_append]
  have : List.filter (A.testBit ·) (List.map (fun x => a + x) (List.range b)) = [] := by
   rw [List.filter_eq_nil_iff]
   intro x hx
   rw [List.mem_map] at hx
   obtain ⟨y,hy,rfl⟩ := hx
   rw [List.mem_range] at hy
   rw [hb _ (by omega) (by omega)]; simp
  rw [this,List.append_nil]
 rcases Nat.le_total k 62 with h1|h1
 ·have := e k (62 - k) (fun v h2 _ => h v h2)
  rwa [show k + (62 - k) = 62 by omega] at this
 ·have := e 62 (k - 62) (fun v h2 _ => Nat.testBit_lt_two_pow (Nat.lt_of_lt_of_le hA.pf (Nat.pow_le_pow_right (by decide) h2)))
  rw [show 62 + (k - 62) = k by omega] at this
  exact this.symm
theorem filt_succ (p:Nat → Bool) (k:Nat):(List.range (k + 1)).filter p = (List.range k).filter p ++ (if p k = true then [k] else []):=by
 rw [List.range_succ,List.filter_append]
 congr 1
 by_cases h : p k = true <;> simp [h]
theorem mem_bitsI {A:Nat}{z:Int}:z ∈ bitsI A ↔ ∃ v:Nat,v < 62 ∧ A.testBit v = true ∧ z = v:=by
 unfold bitsI
 simp only [List.mem_map,List.mem_filter,List.mem_range]
 constructor
 ·rintro ⟨v,⟨h1,h2⟩,rfl⟩; exact ⟨v,h1,h2,rfl⟩
 ·rintro ⟨v,h1,h2,rfl⟩; exact ⟨v,⟨h1,h2⟩,rfl⟩
theorem shr_pos {A k:Nat}(hA:Sm A) (h:0 < ((A >>> k:Nat):Int)):k < 62:=by
 rcases Nat.lt_or_ge k 62 with h1|h1
 ·exact h1
 ·have : A >>> k = 0 := by rw [Nat.shiftRight_eq_div_pow]; exact Nat.div_eq_of_lt (Nat.lt_of_lt_of_le hA.pf (Nat.pow_le_pow_right (by decide) h1))
  rw [this] at h;simp at h
theorem shr_zero {A k:Nat}(h:((A >>> k:Nat):Int) ≤ 0) (v:Nat) (hv:k ≤ v):A.testBit v = false:=by
 have h0 : A >>> k = 0 := Nat.le_zero.1 (Int.ofNat_le.1 h)
 have : A.testBit v = (A >>> k).testBit (v - k) := by rw [Nat.testBit_shiftRight]; congr 1;omega
 rw [this,h0]; simp
theorem filt_snoc {A k:Nat}{u:List Int}(h:((A >>> k &&& 1:Nat):Int) = 1) (hu:u = ((List.range k).filter (A.testBit ·)).map (fun v:Nat => (v:Int))):u ++ [(k:Int)] = ((List.range (k + 1)).filter (A.testBit ·)).map (fun v:Nat => (v:Int)):=by
 rw [filt_succ,if_pos ((and1_iff A k).1 h),List.map_append,hu]; rfl
theorem filt_skip {A k:Nat}{u:List Int}(h:¬ ((A >>> k &&& 1:Nat):Int) = 1) (hu:u = ((List.range k).filter (A.testBit ·)).map (fun v:Nat => (v:Int))):u = ((List.range (k + 1)).filter (A.testBit ·)).map (fun v:Nat => (v:Int)):=by
 rw [filt_succ,if_neg (fun q => h ((and1_iff A k).2 q)),List.append_nil,hu]
def ofV (pts : List Pnt) (V : Nat) : Nat := mkBits (fun l => isLn pts[l]! && V.testBit (pts[l]!.y.toNat)) pts.length
theorem ofV_sm {ts:List Int}{pts:List Pnt}(w:WG ts pts) (V:Nat):Sm (ofV pts V) := mkBits_sm (by have := w.pl;omega)
theorem testBit_ofV {pts:List Pnt}{V l:Nat}:(ofV pts V).testBit l = (decide (l < pts.length) && (isLn pts[l]! && V.testBit (pts[l]!.y.toNat))) := testBit_mkBits _ _ _
def lnB (pts : List Pnt) (i : Nat) : Nat := if isLn pts[i]! = true then 2 ^ i else 0
def plF (ts : List Int) (pts : List Pnt) (i A : Nat) : Nat := anl A (ofV pts (wS ts pts[i]! [2] ||| sbit pts[i]!)) ||| lnB pts i
theorem isLn_y {ts:List Int}{pts:List Pnt}(w:WG ts pts){l:Nat}(hl:l < pts.length) (h:isLn pts[l]! = true):0 ≤ pts[l]!.y ∧ pts[l]!.y < ts.length ∧ pts[l]!.y.toNat < ts.length ∧ ((pts[l]!.y.toNat:Nat):Int) = pts[l]!.y:=by
 have := w.y l hl
 unfold isLn at h
 simp only [Bool.or_eq_true,decide_eq_true_eq] at h
 omega
theorem testBit_lnB {pts:List Pnt}{i l:Nat}:(lnB pts i).testBit l = (isLn pts[i]! && decide (l = i)):=by
 unfold lnB
 split
 ·rename_i h
  by_cases e : l = i
  ·subst e;rw [Nat.testBit_two_pow_self,h]; simp
  ·rw [Nat.testBit_two_pow_of_ne (fun q => e q.symm),h]; simp [e]
 ·rename_i h;rw [Bool.not_eq_true] at h;rw [h]; simp
theorem testBit_plF {ts:List Int}{pts:List Pnt}(w:WG ts pts){i A l:Nat}(hi:i < pts.length) (hl:l < pts.length) (hln:isLn pts[l]! = true):(plF ts pts i A).testBit l = true ↔ (A.testBit l = true ∧ useAt ts pts[i]! pts[l]!.y ≠ 2 ∧ setAt pts[i]! ≠ pts[l]!.y) ∨ (isLn pts[i]! = true ∧ l = i):=by
 have hy := isLn_y w hl hln
 have hs := (w.set i hi).1
 have htl := w.tl
 unfold plF
 rw [Nat.testBit_or,testBit_anl,testBit_ofV,testBit_lnB,Nat.testBit_or,testBit_wS,testBit_sbit (by omega),hy.2.2.2,hln]
 simp only [Bool.or_eq_true,Bool.and_eq_true,Bool.not_eq_true',Bool.and_eq_false_iff,Bool.or_eq_false_iff,decide_eq_true_eq,decide_eq_false_iff_not,List.mem_cons,List.not_mem_nil,or_false,Bool.true_eq_false,false_or]
 have := hy.2.2.1
 grind
theorem plF_lt {ts:List Int}{pts:List Pnt}(w:WG ts pts){i A:Nat}(hi:i < pts.length) (hA:A < 2 ^ pts.length):plF ts pts i A < 2 ^ pts.length:=by
 unfold plF
 refine Nat.or_lt_two_pow (Nat.xor_lt_two_pow hA (Nat.lt_of_le_of_lt Nat.and_le_left hA)) ?_
 unfold lnB;split
 ·exact Nat.pow_lt_pow_right (by decide) hi
 ·exact Nat.pow_pos (by decide)
def PpP (ts : List Int) (pts : List Pnt) (i A : Nat) : Prop := A < 2 ^ pts.length ∧ ∀ l,A.testBit l = true → Pl' ts pts (i,l)
def GoodP (ts : List Int) (pts : List Pnt) (A : List Nat) : Prop := A.length = pts.length ∧ ∀ i,i < pts.length → ∀ l,A[i]!.testBit l = true ↔ Pl' ts pts (i,l)
theorem goodP_ext {ts:List Int}{pts:List Pnt}{A B:List Nat}(h1:GoodP ts pts A) (h2:GoodP ts pts B):A = B := ext_bits h1.1 h2.1 fun i hi v => (h1.2 i hi v).trans (h2.2 i hi v).symm
theorem Pl_ln {ts:List Int}{pts:List Pnt}{a:Nat × Nat}(h:Pl' ts pts a):a.2 < pts.length ∧ isLn pts[a.2]! = true:=by
 induction h with
 | base h => exact ⟨h.1.1,h.2⟩
 | step _ r ih => rw [r.1]; exact ih
theorem flowP {ts:List Int}{pts:List Pnt}(w:WG ts pts):Flow opU (plF ts pts) pts (fun a => 2 ^ pts.length - a) (PpP ts pts):=by
 refine ⟨fun i k A B e hA hB => ⟨Nat.or_lt_two_pow hB.1 (plF_lt w e.1 hA.1),fun l hl => ?_⟩,fun i k A B e hA hB hne => ?_⟩
 ·rw [Nat.testBit_or, Bool.or_eq_true] at hl
  rcases hl with hl|hl
  ·exact hB.2 l hl
  ·have hln : l < pts.length ∧ isLn pts[l]! = true := by
    have h0 := hl
    unfold plF at h0
    rw [Nat.testBit_or,testBit_anl,Bool.or_eq_true,Bool.and_eq_true] at h0
    rcases h0 with h0|h0
    ·exact Pl_ln (hA.2 l h0.1)
    ·rw [testBit_lnB, Bool.and_eq_true, decide_eq_true_eq] at h0
     rw [h0.2]; exact ⟨e.1,h0.1⟩
   rw [testBit_plF w e.1 hln.1 hln.2] at hl
   rcases hl with ⟨h1,h2,h3⟩ | ⟨h1,rfl⟩
   ·exact .step (hA.2 l h1) ⟨rfl,e,h2,h3⟩
   ·exact .base ⟨e,h1⟩
 ·have h1 := or_lt_of_ne hne
  have h2 := Nat.or_lt_two_pow hB.1 (plF_lt w e.1 hA.1)
  show 2 ^ pts.length - (B ||| plF ts pts i A) < 2 ^ pts.length - B
  omega
theorem goodP_of {ts:List Int}{pts:List Pnt}(w:WG ts pts){A:List Nat}(h:SG pts (PpP ts pts) A) (hc:ClosedG opU (plF ts pts) pts A):GoodP ts pts A:=by
 refine ⟨h.1,fun i hi l => ⟨fun hl => (h.2 i hi).2 l hl,fun hm => ?_⟩⟩
 have key : ∀ a : Nat × Nat, Pl' ts pts a → (A[a.1]!.testBit a.2 = true ∧ a.2 < pts.length ∧ isLn pts[a.2]! = true) := by
  refine Clo.sub (T := fun a : Nat × Nat => A[a.1]!.testBit a.2 = true ∧ a.2 < pts.length ∧ isLn pts[a.2]! = true) ?_ ?_
  ·rintro ⟨k, l⟩ ⟨e, hl⟩
   dsimp only at e hl ⊢
   refine ⟨or_eq_iff.1 (hc l k e) l ?_,e.1,hl⟩
   rw [testBit_plF w e.1 e.1 hl]; exact .inr ⟨hl,rfl⟩
  ·rintro ⟨i, l⟩ ⟨k, l'⟩ ⟨ht, hl1, hl2⟩ ⟨rfl, e, hu, hs⟩
   dsimp only at ht hl1 hl2 e hu hs ⊢
   refine ⟨or_eq_iff.1 (hc i k e) l' ?_,hl1,hl2⟩
   rw [testBit_plF w e.1 hl1 hl2]; exact .inl ⟨ht,hu,hs⟩
 exact (key (i,l) hm).1
theorem flatW_len (xs:List Nat):(flat cW xs).length = xs.length := by rw [flat_length cW (e := 1)]; omega
theorem flatW_at {xs:List Nat}{q:Nat}(h:q < xs.length):(flat cW xs).drop q = .v (.int .u64 ((xs[q]!:Nat):Int)) :: flat cW (xs.drop (q + 1)):=by
 have := flat_drop cW (e := 1) xs q h
 rw [Nat.mul_one] at this;rw [this]; rfl
section
theorem rx_index1W {t el z:Nat}{x i:Operand}{xs:List Nat}{k:IntKind}{m:Int}[ht:ArT P t z el] [he:SzT P el 1] [ha:AgT P el false] (hx:ev (lk ts) x = some (.agg (flat cW xs)))
  (hi : ev (lk ts) i = some (.v (.int k m))) (hl : xs.length = z) (hm : 0 ≤ m ∧ m < z) (hN : Nat.blt d N = true) {md' : Md} [hmd : MdA md (rO x ++ rO i) [.inl d] md'] (kk : RW P N all Q md' rest ⟨(d,.v (.int .u64 ((xs[m.toNat]! : Nat) : Int))) :: ts,hs,n,z0⟩) :
  RW P N all Q md (⟨some d,.index t x i,ty,pos,af,none⟩ :: rest) ⟨ts,hs,n,z0⟩ := by
 refine rw_index1 (c := .v (.int .u64 ((xs[m.toNat]! : Nat) : Int))) hx hi ht.pf he.pf ha.pf hm ?_ (ltb hN) (by rw [hmd.pf]; exact kk)
 have hlt : m.toNat < xs.length := by omega
 have := congrArg List.head? (flatW_at hlt)
 rw [List.head?_drop] at this
 rw [Nat.mul_one]; exact this
theorem rx_loadArr0 {id z:Nat}{t:TypeId}{x:Operand}{xs:List Nat}[ha:AgT P t true] [hz:SzT P t z] (hx:ev (lk ts) x = some (.optr id 0)) (hH:lkH hs id = some (flat cW xs)) (hl:xs.length = z) (h0:Nat.blt 0 z = true)
  (hN : Nat.blt d N = true) {md' : Md} [hmd : MdA md (rO x ++ rA (.optr id 0)) [.inl d] md'] (kk : RW P N all Q md' rest ⟨(d,.agg (flat cW xs)) :: ts,hs,n,z0⟩) : RW P N all Q md (⟨some d,.load t x,ty,pos,af,none⟩ :: rest) ⟨ts,hs,n,z0⟩ :=
 rw_loadA (cs := flat cW xs) hx ha.pf hz.pf (by simp only [deref,hH,Option.map_some,List.drop_zero]) (List.take_of_length_le (by rw [flatW_len,hl]; exact Nat.le_refl _)) (by rw [flatW_len,hl]) (by have := ltb h0;omega) (ltb hN) (by rw [hmd.pf]; exact kk)
theorem rx_loadArrK {id z k:Nat}{t:TypeId}{x:Operand}{xs:List Nat}[ha:AgT P t true] [hz:SzT P t z] (hx:ev (lk ts) x = some (.optr id (0 + k * z))) (hH:lkH hs id = some (flat cW xs)) (hl:k * z + z ≤ xs.length) (h0:Nat.blt 0 z = true)
  (hN : Nat.blt d N = true) {md' : Md} [hmd : MdA md (rO x ++ rA (.optr id (0 + k * z))) [.inl d] md'] (kk : RW P N all Q md' rest ⟨(d,.agg (flat cW ((xs.drop (k * z)).take z))) :: ts,hs,n,z0⟩) : RW P N all Q md (⟨some d,.load t x,ty,pos,af,none⟩ :: rest) ⟨ts,hs,n,z0⟩ := by
 have e1 : (flat cW xs).drop (0 + k * z) = flat cW (xs.drop (k * z)) := by
  have := flat_drop' cW (e := 1) xs (k * z);rw [Nat.mul_one] at this;rw [Nat.zero_add,this]
 have e2 : (flat cW (xs.drop (k * z))).take z = flat cW ((xs.drop (k * z)).take z) := by
  have := flat_take cW (e := 1) (xs.drop (k * z)) z;rw [Nat.mul_one] at this;exact this
 exact rw_loadA (cs := flat cW (xs.drop (k * z))) hx ha.pf hz.pf (by simp only [deref,hH,Option.map_some]; rw [e1]) e2 (by rw [flatW_len,List.length_take,List.length_drop]; omega) (by have := ltb h0;omega) (ltb hN) (by rw [hmd.pf]; exact kk)
theorem rx_loadWq {id o q:Nat}{t:TypeId}{x:Operand}{xs:List Nat}[ha:AgT P t false] (hx:ev (lk ts) x = some (.optr id o)) (hH:lkH hs id = some (flat cW xs)) (ho:o = q) (hq:q < xs.length)
  (hN : Nat.blt d N = true) {md' : Md} [hmd : MdA md (rO x ++ rA (.optr id o)) [.inl d] md'] (kk : RW P N all Q md' rest ⟨(d,.v (.int .u64 ((xs[q]! : Nat) : Int))) :: ts,hs,n,z0⟩) : RW P N all Q md (⟨some d,.load t x,ty,pos,af,none⟩ :: rest) ⟨ts,hs,n,z0⟩ := by
 subst ho
 exact rw_load1 hx ha.pf (by simp only [deref,hH,Option.map_some]; rw [flatW_at hq]) rfl (ltb hN) (by rw [hmd.pf]; exact kk)
theorem rx_storeArr {id z:Nat}{t:TypeId}{x y:Operand}{xs:List Nat}{cs:List AV}[hz:SzT P t z] (hx:ev (lk ts) x = some (.optr id 0)) (hy:ev (lk ts) y = some (.agg (flat cW xs))) (hH:lkH hs id = some cs) (hl:xs.length = z) (hc:cs.length = z)
  {md' : Md} [hmd : MdA md (rO x ++ (rO y ++ [.inr id])) [.inr id] md'] (kk : RW P N all Q md' rest ⟨ts,(id,some (flat cW xs)) :: hs,n,z0⟩) : RW P N all Q md (⟨none,.store t x y,ty,pos,af,none⟩ :: rest) ⟨ts,hs,n,z0⟩ :=
 rw_store (cs' := flat cW xs) hx hy hz.pf rfl (by rw [flatW_len, hl]) hH (by rw [flatW_len]; omega) (by
  unfold spl
  rw [List.take_zero,List.nil_append,Nat.zero_add,flatW_len,hl,List.drop_of_length_le (by omega),List.append_nil]) (by rw [hmd.pf]; exact kk)
theorem off6 {a b:Nat}:0 + a * 6 + b * 1 = a * 6 + b := by omega
theorem off1 {a:Nat}:0 + a * 1 = a := by omega
theorem st_natW6 {xs:List Nat}{k v a:Nat}(hk:k * 6 + v < xs.length):spl (flat cW xs) (0 + k * 6 + v * 1) [.v (.int .u64 (a:Int))] = flat cW (xs.set (k * 6 + v) a):=by
 rw [show 0 + k * 6 + v * 1 = 0 + (k * 6 + v) * 1 by omega]; exact st_natW hk
theorem resL_cellW {T:Nat → Option AV}{H:Nat → Option (List AV)}{a t id z:Nat}{xs:List Nat}[ha:AgT P t true] [hz:SzT P t z] (h1:T a = some (.optr id 0)) (h2:H id = some (flat cW xs)) (hl:xs.length = z) (h0:0 < z) :
  resL P T H [.cell a t] = some [.agg (flat cW xs)] := by
 have e : (flat cW xs).take z = flat cW xs := List.take_of_length_le (by rw [flatW_len,hl]; exact Nat.le_refl _)
 simp only [resL,resA,h1,deref,h2,Option.map_some,List.drop_zero,ha.pf,hz.pf,e,flatW_len,hl]
 rw [if_pos ⟨trivial,by omega⟩]
end
theorem mk_natW6 {m:Nat}:(List.replicate m ([Value.int .u64 0,Value.int .u64 0,Value.int .u64 0,Value.int .u64 0,Value.int .u64 0,Value.int .u64 0].map AV.v)).flatten = flat cW (List.replicate (m * 6) 0):=by
 induction m with
 | zero => rfl
 | succ m ih =>
  rw [List.replicate_succ,List.flatten_cons,ih,Nat.succ_mul,Nat.add_comm,← List.replicate_append_replicate,← flat_append]
  rfl
def clrF (L : List Int) (f : List Nat) : List Nat := L.foldl (fun f v => f.set v.toNat 0) f
def cfF (ts : List Int) (pts : List Pnt) (i : Nat) (f : List Nat) : List Nat :=
 let x := pts[i]!
 let u := clrF (bitsI (wS ts x [2])) f
 if setAt x < 0 then u else
  let v := (setAt x).toNat
  let u2 := if isLn x = true then (u.set v 0).set v (2 ^ i) else u.set v 0
  if (isLn x = true ∧ isRef ts[x.y.toNat]! = true) ∨ x.op = 3 then u2.set v (u2[v]! ||| f[x.y.toNat]!) else u2
theorem clrF_len:∀ (L:List Int) (f:List Nat),(clrF L f).length = f.length
 | [],f => rfl
 | v :: L,f => by show (clrF L (f.set v.toNat 0)).length = _; rw [clrF_len L]; simp
theorem clrF_at:∀ (L:List Int) (f:List Nat) (q:Nat),(clrF L f)[q]! = if ∃ v ∈ L,v.toNat = q then 0 else f[q]!
 | [],f,q => by simp [clrF]
 | v :: L, f, q => by
  show (clrF L (f.set v.toNat 0))[q]! = _
  rw [clrF_at L]
  by_cases h : ∃ v ∈ L,v.toNat = q
  ·rw [if_pos h,if_pos (by obtain ⟨z,h1,h2⟩ := h;exact ⟨z,List.mem_cons_of_mem _ h1,h2⟩)]
  ·rw [if_neg h]
   by_cases hv : v.toNat = q
   ·rw [if_pos ⟨v, List.mem_cons_self, hv⟩]
    subst hv
    by_cases hq : v.toNat < f.length
    ·rw [getB_set _ _ _ _ hq,if_pos rfl]
    ·rw [getElem!_neg (f.set v.toNat 0) v.toNat (by simpa using hq)]; rfl
   ·rw [if_neg (by rintro ⟨z, hz, e⟩; rcases List.mem_cons.1 hz with rfl | hz; exact hv e; exact h ⟨z, hz, e⟩)]
    simp only [List.getElem!_eq_getElem?_getD,List.getElem?_set_ne hv]
theorem cfF_len (ts:List Int) (pts:List Pnt) (i:Nat) (f:List Nat):(cfF ts pts i f).length = f.length:=by
 unfold cfF
 dsimp only
 split
 ·exact clrF_len _ _
 ·split <;> split <;> simp [clrF_len]
theorem clr_sm {L:List Int}{f:List Nat}(h:∀ z:Nat,Sm f[z]!) (z:Nat):Sm (clrF L f)[z]!:=by
 rw [clrF_at]; split
 ·infer_instance
 ·exact h z
theorem set_sm {f:List Nat}{k a:Nat}(h:∀ z:Nat,Sm f[z]!) (ha:Sm a) (z:Nat):Sm (f.set k a)[z]!:=by
 by_cases hk : k < f.length
 ·rw [getB_set _ _ _ _ hk]; split
  ·exact ha
  ·exact h z
 ·rw [List.set_eq_of_length_le (by omega)]; exact h z
theorem isLn_op {x:Pnt}(h:isLn x = true):x.op = 4 ∨ x.op = 5 := by simpa [isLn] using h
theorem clrF_take {L:List Int}{f:List Nat}{k:Nat}(h:k < L.length):clrF (L.take (k + 1)) f = (clrF (L.take k) f).set (L[k]!).toNat 0:=by
 unfold clrF;rw [foldl_take _ _ _ _ h]
theorem bitsI_bd {A n:Nat}(h:A < 2 ^ n){k:Nat}(hk:k < (bitsI A).length):0 ≤ (bitsI A)[k]! ∧ (bitsI A)[k]! < n:=by
 obtain ⟨v,h1,h2,h3⟩ := mem_bitsI.1 (getB_mem _ _ hk)
 have := lt_of_bits h h2
 omega
theorem bitsI_len (A:Nat):(bitsI A).length ≤ 62:=by
 unfold bitsI;rw [List.length_map]; exact Nat.le_trans (List.length_filter_le _ _) (by simp)
def row6 (A : List Nat) (i : Nat) : List Nat := (A.drop (i * 6)).take 6
theorem row6_at {A:List Nat}{i v n:Nat}(hA:A.length = n * 6) (hi:i < n) (hv:v < 6):(row6 A i)[v]! = A[i * 6 + v]!:=by
 have h2 : i * 6 + v < A.length := by omega
 rw [getB _ _ h2,getB _ _ (by unfold row6;simp;omega)]
 unfold row6;simp
theorem row6_len {A:List Nat}{i n:Nat}(hA:A.length = n * 6) (hi:i < n):(row6 A i).length = 6 := by unfold row6;simp;omega
theorem testBit_cfF {ts:List Int}{pts:List Pnt}(w:WG ts pts){i v l:Nat}{f:List Nat}(hi:i < pts.length) (hv:v < 6) (hf:f.length = 6) :
  (cfF ts pts i f)[v]!.testBit l = true ↔ (setAt pts[i]! ≠ v ∧ useAt ts pts[i]! v ≠ 2 ∧ f[v]!.testBit l = true) ∨
   (setAt pts[i]! = v ∧ ((isLn pts[i]! = true ∧ l = i) ∨ (((isLn pts[i]! = true ∧ isRef ts[pts[i]!.y.toNat]! = true) ∨ pts[i]!.op = 3) ∧ f[pts[i]!.y.toNat]!.testBit l = true))) := by
 have hst := w.set i hi
 have htl := w.tl
 have hclr : ∀ q : Nat, (clrF (bitsI (wS ts pts[i]! [2])) f)[q]! = if useAt ts pts[i]! q = 2 then 0 else f[q]! := by
  intro q
  rw [clrF_at]
  have : (∃ z ∈ bitsI (wS ts pts[i]! [2]), z.toNat = q) ↔ useAt ts pts[i]! q = 2 := by
   constructor
   ·rintro ⟨z, hz, rfl⟩
    obtain ⟨q,h1,h2,rfl⟩ := mem_bitsI.1 hz
    rw [testBit_wS] at h2
    simpa using (by simpa using h2 : q < ts.length ∧ useAt ts pts[i]! (q : Int) = 2).2
   ·intro h
    have := useAt_range w hi (v := q) (by omega)
    exact ⟨(q : Int),mem_bitsI.2 ⟨q,by omega,by rw [testBit_wS,Bool.and_eq_true,decide_eq_true_eq,decide_eq_true_eq]; exact ⟨this,by simp only [List.mem_singleton]; exact h⟩,rfl⟩,rfl⟩
  by_cases h : useAt ts pts[i]! q = 2
  ·rw [if_pos (this.2 h),if_pos h]
  ·rw [if_neg (fun q => h (this.1 q)),if_neg h]
 have hul : (clrF (bitsI (wS ts pts[i]! [2])) f).length = 6 := by rw [clrF_len,hf]
 unfold cfF
 dsimp only
 generalize clrF (bitsI (wS ts pts[i]! [2])) f = u at hclr hul
 by_cases hneg : setAt pts[i]! < 0
 ·rw [if_pos hneg, hclr]
  by_cases h2 : useAt ts pts[i]! v = 2
  ·rw [if_pos h2, Nat.zero_testBit]
   constructor
   ·intro h;cases h
   ·rintro (h | h)
    ·exact absurd h2 h.2.1
    ·omega
  ·rw [if_neg h2]
   constructor
   ·intro h;exact .inl ⟨by omega,h2,h⟩
   ·rintro (h | h)
    ·exact h.2.2
    ·omega
 ·rw [if_neg hneg]
  have hsv : (setAt pts[i]!).toNat < 6 := by omega
  have heq : ∀ q : Nat,q = (setAt pts[i]!).toNat ↔ setAt pts[i]! = q := by intro q;omega
  -- the slot before the last step
  have hu2 : ∀ q : Nat, (if isLn pts[i]! = true then (u.set (setAt pts[i]!).toNat 0).set (setAt pts[i]!).toNat (2 ^ i) else u.set (setAt pts[i]!).toNat 0)[q]! = if q = (setAt pts[i]!).toNat then (if isLn pts[i]! = true then 2 ^ i else 0) else u[q]! := by
   intro q
   by_cases hl : isLn pts[i]! = true
   ·rw [if_pos hl, if_pos hl, getB_set _ _ _ _ (by rw [List.length_set]; omega), getB_set _ _ _ _ (by omega)]
    split <;> rfl
   ·rw [if_neg hl,if_neg hl,getB_set _ _ _ _ (by omega)]
  have hu2l : (if isLn pts[i]! = true then (u.set (setAt pts[i]!).toNat 0).set (setAt pts[i]!).toNat (2 ^ i) else u.set (setAt pts[i]!).toNat 0).length = 6 := by split <;> simp [hul]
  generalize (if isLn pts[i]! = true then (u.set (setAt pts[i]!).toNat 0).set (setAt pts[i]!).toNat (2 ^ i) else u.set (setAt pts[i]!).toNat 0) = u2 at hu2 hu2l
  have hln : ∀ l : Nat, (if isLn pts[i]! = true then 2 ^ i else 0).testBit l = true ↔ isLn pts[i]! = true ∧ l = i := by
   intro l
   have := @testBit_lnB pts i l
   unfold lnB at this
   rw [this]; simp
  by_cases hc : (isLn pts[i]! = true ∧ isRef ts[pts[i]!.y.toNat]! = true) ∨ pts[i]!.op = 3
  ·rw [if_pos hc, getB_set _ _ _ _ (by omega)]
   by_cases hv2 : v = (setAt pts[i]!).toNat
   ·have hs := (heq v).1 hv2
    rw [if_pos hv2,← hv2,hu2,if_pos hv2,Nat.testBit_or,Bool.or_eq_true,hln]
    constructor
    ·rintro (h | h)
     ·exact .inr ⟨hs,.inl h⟩
     ·exact .inr ⟨hs,.inr ⟨hc,h⟩⟩
    ·rintro (h | ⟨_, h | h⟩)
     ·exact absurd hs h.1
     ·exact .inl h
     ·exact .inr h.2
   ·have hs : setAt pts[i]! ≠ v := fun h => hv2 ((heq v).2 h)
    rw [if_neg hv2,hu2,if_neg hv2,hclr]
    by_cases h2 : useAt ts pts[i]! v = 2
    ·rw [if_pos h2, Nat.zero_testBit]
     constructor
     ·intro h;cases h
     ·rintro (h | h)
      ·exact absurd h2 h.2.1
      ·exact absurd h.1 hs
    ·rw [if_neg h2]
     constructor
     ·intro h;exact .inl ⟨hs,h2,h⟩
     ·rintro (h | h)
      ·exact h.2.2
      ·exact absurd h.1 hs
  ·rw [if_neg hc, hu2]
   by_cases hv2 : v = (setAt pts[i]!).toNat
   ·have hs := (heq v).1 hv2
    rw [if_pos hv2,hln]
    constructor
    ·intro h;exact .inr ⟨hs,.inl h⟩
    ·rintro (h | ⟨_, h | h⟩)
     ·exact absurd hs h.1
     ·exact h
     ·exact absurd h.1 hc
   ·have hs : setAt pts[i]! ≠ v := fun h => hv2 ((heq v).2 h)
    rw [if_neg hv2,hclr]
    by_cases h2 : useAt ts pts[i]! v = 2
    ·rw [if_pos h2, Nat.zero_testBit]
     constructor
     ·intro h;cases h
     ·rintro (h | h)
      ·exact absurd h2 h.2.1
      ·exact absurd h.1 hs
    ·rw [if_neg h2]
     constructor
     ·intro h;exact .inl ⟨hs,h2,h⟩
     ·rintro (h | h)
      ·exact h.2.2
      ·exact absurd h.1 hs
def PpF (ts : List Int) (pts : List Pnt) (i v A : Nat) : Prop := A < 2 ^ pts.length ∧ ∀ l,A.testBit l = true → Fr' ts pts (i,v,l)
def SF (ts : List Int) (pts : List Pnt) (s : List Nat) : Prop := s.length = pts.length * 6 ∧ ∀ i v,i < pts.length → v < 6 → PpF ts pts i v s[i * 6 + v]!
def GoodF (ts : List Int) (pts : List Pnt) (A : List Nat) : Prop := A.length = pts.length * 6 ∧ ∀ i v,i < pts.length → v < 6 → ∀ l,A[i * 6 + v]!.testBit l = true ↔ Fr' ts pts (i,v,l)
theorem goodF_ext {ts:List Int}{pts:List Pnt}{A B:List Nat}(h1:GoodF ts pts A) (h2:GoodF ts pts B):A = B:=by
 refine ext_bits h1.1 h2.1 fun q hq v => ?_
 have e : q = q / 6 * 6 + q % 6 := by omega
 have h3 : q / 6 < pts.length := by omega
 have h4 : q % 6 < 6 := by omega
 have a := h1.2 (q / 6) (q % 6) h3 h4 v
 have b := h2.2 (q / 6) (q % 6) h3 h4 v
 rw [← e] at a b
 exact a.trans b.symm
def stp6 (a : List Nat) (k : Nat) (s : List Nat × Bool) (v : Nat) : List Nat × Bool := bstp opU a[v]! s (k * 6 + v)
def mid6 (a : List Nat) (s : List Nat × Bool) (k : Nat) : List Nat × Bool := (List.range 6).foldl (stp6 a k) s
def inn6 (ts : List Int) (pts : List Pnt) (s : List Nat × Bool) (i : Nat) : List Nat × Bool := (nxN pts i).foldl (mid6 (cfF ts pts i (row6 s.1 i))) s
def swp6 (ts : List Int) (pts : List Pnt) (s : List Nat × Bool) : List Nat × Bool := (List.range pts.length).foldl (inn6 ts pts) s
theorem or_bound {a b n:Nat}(h1:a < 2 ^ n) (h2:b < 2 ^ n):a ||| b < 2 ^ n := Nat.or_lt_two_pow h1 h2
theorem cfF_snd {ts:List Int}{pts:List Pnt}(w:WG ts pts){s:List Nat}(h:SF ts pts s){i k v:Nat}(e:edge pts i k) (hv:v < 6):PpF ts pts k v (cfF ts pts i (row6 s i))[v]!:=by
 have hi := e.1
 have hrl := row6_len h.1 hi
 have htl := w.tl
 have key : ∀ l, (cfF ts pts i (row6 s i))[v]!.testBit l = true → l < pts.length ∧ Fr' ts pts (k, v, l) := by
  intro l hl
  rw [testBit_cfF w hi hv hrl] at hl
  rcases hl with ⟨h1,h2,h3⟩ | ⟨h1,⟨h2,rfl⟩ | ⟨h2,h3⟩⟩
  ·rw [row6_at h.1 hi hv] at h3
   have hp := h.2 i v hi hv
   exact ⟨lt_of_bits hp.1 h3,.step (hp.2 l h3) ⟨rfl,e,.inl ⟨h1,rfl,h2⟩⟩⟩
  ·exact ⟨hi,.base ⟨e,h2,h1⟩⟩
  ·have hy : 0 ≤ pts[i]!.y ∧ pts[i]!.y < ts.length := by
    have := w.y i hi
    rcases h2 with ⟨h2,_⟩|h2
    ·have := isLn_op h2;omega
    ·omega
   have hy6 : pts[i]!.y.toNat < 6 := by omega
   rw [row6_at h.1 hi hy6] at h3
   have hp := h.2 i _ hi hy6
   exact ⟨lt_of_bits hp.1 h3,.step (hp.2 l h3) ⟨rfl,e,.inr ⟨h1,by show ((pts[i]!.y.toNat : Nat) : Int) = pts[i]!.y;omega,h2⟩⟩⟩
 refine ⟨?_,fun l hl => (key l hl).2⟩
 apply Nat.lt_pow_two_of_testBit
 intro l hl
 cases hq : (cfF ts pts i (row6 s i))[v]!.testBit l with
 | false => rfl
 | true => have := (key l hq).1;omega
theorem stp6_law {ts:List Int}{pts:List Pnt}{a:List Nat}{k:Nat}(hk:k < pts.length) (ha:∀ v,v < 6 → PpF ts pts k v a[v]!) (s:List Nat) (b:Bool) (v:Nat) (hv:v < 6) (h:SF ts pts s) :
  SF ts pts (stp6 a k (s,b) v).1 ∧ ((stp6 a k (s,b) v = (s,b) ∧ opU s[k * 6 + v]! a[v]! = s[k * 6 + v]!) ∨ ((stp6 a k (s,b) v).2 = true ∧ sumL ((stp6 a k (s,b) v).1.map (fun x => 2 ^ pts.length - x)) < sumL (s.map (fun x => 2 ^ pts.length - x)))) := by
 unfold stp6 bstp
 dsimp only
 have hq : k * 6 + v < s.length := by rw [h.1]; omega
 have hp := h.2 k v hk hv
 by_cases hc : opU s[k * 6 + v]! a[v]! ≠ s[k * 6 + v]!
 ·rw [if_pos hc]
  have hb := or_bound hp.1 (ha v hv).1
  refine ⟨⟨by simp [h.1],fun i u hi hu => ?_⟩,.inr ⟨rfl,?_⟩⟩
  ·dsimp only
   rw [getB_set _ _ _ _ hq]
   split
   ·rename_i e
    obtain rfl : i = k := by omega
    obtain rfl : u = v := by omega
    refine ⟨hb,fun l hl => ?_⟩
    rw [Nat.testBit_or,Bool.or_eq_true] at hl
    rcases hl with hl|hl
    ·exact hp.2 l hl
    ·exact (ha _ hv).2 l hl
   ·exact h.2 i u hi hu
  ·have h1 := sumL_set (fun x => 2 ^ pts.length - x) s (k * 6 + v) (opU s[k * 6 + v]! a[v]!) hq
   have h2 := or_lt_of_ne hc
   dsimp only at h1 ⊢
   have h3 : opU s[k * 6 + v]! a[v]! < 2 ^ pts.length := hb
   have h4 : s[k * 6 + v]! < opU s[k * 6 + v]! a[v]! := h2
   omega
 ·rw [if_neg hc]
  exact ⟨h,.inl ⟨rfl,Classical.not_not.1 hc⟩⟩
theorem mid6_law {ts:List Int}{pts:List Pnt}{a:List Nat}{k:Nat}(hk:k < pts.length) (ha:∀ v,v < 6 → PpF ts pts k v a[v]!) (s:List Nat) (b:Bool) (h:SF ts pts s) :
  SF ts pts (mid6 a (s,b) k).1 ∧ ((mid6 a (s,b) k = (s,b) ∧ ∀ v,v < 6 → opU s[k * 6 + v]! a[v]! = s[k * 6 + v]!) ∨ ((mid6 a (s,b) k).2 = true ∧ sumL ((mid6 a (s,b) k).1.map (fun x => 2 ^ pts.length - x)) < sumL (s.map (fun x => 2 ^ pts.length - x)))) := by
 have := fold_law (stp6 a k) (fun v s => opU s[k * 6 + v]! a[v]! = s[k * 6 + v]!) (fun s => sumL (s.map (fun x => 2 ^ pts.length - x))) (SF ts pts) (List.range 6)
  (fun s' b' v hv hs => stp6_law hk ha s' b' v (List.mem_range.1 hv) hs) s b h
 refine ⟨this.1,?_⟩
 rcases this.2 with ⟨e1,e2⟩|h2
 ·exact .inl ⟨e1,fun v hv => e2 v (List.mem_range.2 hv)⟩
 ·exact .inr h2
theorem inn6_law {ts:List Int}{pts:List Pnt}(w:WG ts pts) (s:List Nat) (b:Bool) (i:Nat) (hi:i < pts.length) (h:SF ts pts s) :
  SF ts pts (inn6 ts pts (s, b) i).1 ∧ ((inn6 ts pts (s, b) i = (s, b) ∧ ∀ k, edge pts i k → ∀ v, v < 6 → opU s[k * 6 + v]! (cfF ts pts i (row6 s i))[v]! = s[k * 6 + v]!) ∨
   ((inn6 ts pts (s,b) i).2 = true ∧ sumL ((inn6 ts pts (s,b) i).1.map (fun x => 2 ^ pts.length - x)) < sumL (s.map (fun x => 2 ^ pts.length - x)))) := by
 have := fold_law (mid6 (cfF ts pts i (row6 s i))) (fun k s' => ∀ v, v < 6 → opU s'[k * 6 + v]! (cfF ts pts i (row6 s i))[v]! = s'[k * 6 + v]!) (fun s => sumL (s.map (fun x => 2 ^ pts.length - x))) (SF ts pts) (nxN pts i)
  (fun s' b' k hk hs => by
   have e := (mem_nxN w hi).1 hk
   exact mid6_law (edge_lt w e) (fun v hv => cfF_snd w h e hv) s' b' hs) s b h
 refine ⟨this.1,?_⟩
 rcases this.2 with ⟨e1,e2⟩|h2
 ·exact .inl ⟨e1,fun k e => e2 k ((mem_nxN w hi).2 e)⟩
 ·exact .inr h2
def Closed6 (ts : List Int) (pts : List Pnt) (s : List Nat) : Prop := ∀ i k,edge pts i k → ∀ v,v < 6 → opU s[k * 6 + v]! (cfF ts pts i (row6 s i))[v]! = s[k * 6 + v]!
theorem swp6_law {ts:List Int}{pts:List Pnt}(w:WG ts pts) (s:List Nat) (b:Bool) (h:SF ts pts s) :
  SF ts pts (swp6 ts pts (s,b)).1 ∧ ((swp6 ts pts (s,b) = (s,b) ∧ Closed6 ts pts s) ∨ ((swp6 ts pts (s,b)).2 = true ∧ sumL ((swp6 ts pts (s,b)).1.map (fun x => 2 ^ pts.length - x)) < sumL (s.map (fun x => 2 ^ pts.length - x)))) := by
 have := fold_law (inn6 ts pts) (fun i s => ∀ k, edge pts i k → ∀ v, v < 6 → opU s[k * 6 + v]! (cfF ts pts i (row6 s i))[v]! = s[k * 6 + v]!) (fun s => sumL (s.map (fun x => 2 ^ pts.length - x))) (SF ts pts) (List.range pts.length)
  (fun s' b' i hi hs => inn6_law w s' b' i (List.mem_range.1 hi) hs) s b h
 refine ⟨this.1,?_⟩
 rcases this.2 with ⟨e1,e2⟩|h2
 ·exact .inl ⟨e1,fun i k e => e2 i (List.mem_range.2 e.1) k e⟩
 ·exact .inr h2
theorem Fr_lt {ts:List Int}{pts:List Pnt}(w:WG ts pts){a:Nat × Nat × Nat}(h:Fr' ts pts a):a.1 < pts.length ∧ a.2.1 < ts.length ∧ a.2.2 < pts.length:=by
 induction h with
 | @base a h =>
  have h1 := (w.set _ h.1.1).1
  have h2 := h.2.2
  exact ⟨edge_lt w h.1,by omega,h.1.1⟩
 | @step a b _ r ih =>
  refine ⟨edge_lt w r.2.1,?_,by rw [r.1]; exact ih.2.2⟩
  rcases r.2.2 with ⟨_,h,_⟩ | ⟨h,_⟩
  ·rw [h]; exact ih.2.1
  ·have h1 := (w.set _ r.2.1.1).1
   omega
theorem goodF_of {ts:List Int}{pts:List Pnt}(w:WG ts pts){A:List Nat}(h:SF ts pts A) (hc:Closed6 ts pts A):GoodF ts pts A:=by
 refine ⟨h.1,fun i v hi hv l => ⟨fun hl => (h.2 i v hi hv).2 l hl,fun hm => ?_⟩⟩
 have htl := w.tl
 have key : ∀ a : Nat × Nat × Nat, Fr' ts pts a → A[a.1 * 6 + a.2.1]!.testBit a.2.2 = true ∧ a.2.1 < ts.length := by
  refine Clo.sub (T := fun a : Nat × Nat × Nat => A[a.1 * 6 + a.2.1]!.testBit a.2.2 = true ∧ a.2.1 < ts.length) ?_ ?_
  ·rintro ⟨k, v, l⟩ ⟨e, hl, hs⟩
   dsimp only at e hl hs ⊢
   have h1 := (w.set _ e.1).1
   have hv : v < 6 := by omega
   refine ⟨or_eq_iff.1 (hc l k e v hv) l ?_,by omega⟩
   rw [testBit_cfF w e.1 hv (row6_len h.1 e.1)]
   exact .inr ⟨hs,.inl ⟨hl,rfl⟩⟩
  ·rintro ⟨i, v, l⟩ ⟨k, v', l'⟩ ⟨ht, hv⟩ ⟨rfl, e, hd⟩
   dsimp only at ht hv e hd ⊢
   have h1 := (w.set _ e.1).1
   rcases hd with ⟨g1,rfl,g3⟩ | ⟨g1,g2,g3⟩
   ·refine ⟨or_eq_iff.1 (hc i k e v' (by omega)) l' ?_, hv⟩
    rw [testBit_cfF w e.1 (by omega) (row6_len h.1 e.1),row6_at h.1 e.1 (by omega)]
    exact .inl ⟨g1,g3,ht⟩
   ·refine ⟨or_eq_iff.1 (hc i k e v' (by omega)) l' ?_, by omega⟩
    rw [testBit_cfF w e.1 (by omega) (row6_len h.1 e.1)]
    have : pts[i]!.y.toNat = v := by omega
    rw [this,row6_at (v := v) h.1 e.1 (by omega)]
    exact .inr ⟨g1,.inr ⟨g3,ht⟩⟩
 exact (key (i,v,l) hm).1
theorem SF_rep {ts:List Int}{pts:List Pnt}:SF ts pts (List.replicate (pts.length * 6) 0):=by
 refine ⟨by simp,fun i v hi hv => ?_⟩
 rw [getB _ _ (by simp;omega),List.getElem_replicate]
 exact ⟨Nat.pow_pos (by decide),fun l h => by simp at h⟩
theorem SF_sm {ts:List Int}{pts:List Pnt}(w:WG ts pts){s:List Nat}(h:SF ts pts s) (q:Nat):Sm s[q]!:=by
 have hpl := w.pl
 by_cases hq : q < s.length
 ·have e : q = q / 6 * 6 + q % 6 := by omega
  have := h.1
  have := (h.2 (q / 6) (q % 6) (by omega) (by omega)).1
  rw [← e] at this
  exact ⟨Nat.lt_of_lt_of_le this (Nat.pow_le_pow_right (by decide) (by omega))⟩
 ·rw [getElem!_neg s q hq]; exact ⟨by decide⟩
theorem stp6_take (a:List Nat) (k v:Nat) (s:List Nat × Bool):(List.range (v + 1)).foldl (stp6 a k) s = stp6 a k ((List.range v).foldl (stp6 a k) s) v := range_succ_foldl _ _ _
theorem mid6_take {a:List Nat}{pts:List Pnt}{i j:Nat}(h:j < pts[i]!.next.length) (s:List Nat × Bool) :
  ((nxN pts i).take (j + 1)).foldl (mid6 a) s = mid6 a (((nxN pts i).take j).foldl (mid6 a) s) (pts[i]!.next[j]!).toNat := by
 rw [foldl_take _ _ _ _ (by rw [nxN_len]; exact h),nxN_get h]
section
theorem rx_assignNil {e:Nat}(hM:Nat.blt n big = true) (hN:Nat.blt d N = true) (kk:RW P N all Q .txt rest ⟨(d,.own n 0 0 e) :: ts,(n,some []) :: hs,n + 1,z0⟩) :
  RW P N all Q .txt (⟨some d,.assign (.const (.slice none 0 0)),ty,pos,af,none⟩ :: rest) ⟨ts,hs,n,z0⟩ := by
 refine rx_assign (av := .v (.slice none 0 0)) rfl hN (md' := .txt) (rw_le kk ((Le.nilOwn (d := d) e (by simp [lk_c]) (ltb hM)).trans ?_))
 refine Le.of (fun t av h => ?_) (fun i c h => h) (Nat.le_refl _) rfl
 show lk ((d,.own n 0 0 e) :: (d,.v (.slice none 0 0)) :: ts) t = _
 have h' : lk ((d,.own n 0 0 e) :: ts) t = some av := h
 simp only [lk_c] at h' ⊢
 split
 ·rename_i q;rw [if_pos q] at h'; exact h'
 ·rename_i q;rw [if_neg q] at h'; exact h'
theorem rx_indexW6 {xs:List Nat}{t el m:Nat}{x i:Operand}{kk0:IntKind}{k:Int}[ht:SlT P t el] [he:SzT P el 6] (hx:ev (lk ts) x = some (.imm m (flat cW xs)))
  (hi : ev (lk ts) i = some (.v (.int kk0 k))) (hm : 0 ≤ k ∧ k < m) (hN : Nat.blt d N = true) {md' : Md} [hmd : MdA md (rO x ++ rO i) [.inl d] md'] (kk : RW P N all Q md' rest ⟨(d,.iptr (flat cW (xs.drop (k.toNat * 6)))) :: ts,hs,n,z0⟩) :
  RW P N all Q md (⟨some d,.indexAddr t x i,ty,pos,af,none⟩ :: rest) ⟨ts,hs,n,z0⟩ :=
 rw_indexAddr (out := .iptr (flat cW (xs.drop (k.toNat * 6)))) hx hi ht.pf he.pf (by
  simp only [sIdx]; rw [if_pos hm]
  have := flat_drop' cW (e := 1) xs (k.toNat * 6);rw [Nat.mul_one] at this;rw [this]) (ltb hN) (by rw [hmd.pf]; exact kk)
theorem rx_loadIArr {z:Nat}{t:TypeId}{x:Operand}{xs:List Nat}[ha:AgT P t true] [hz:SzT P t z] (hx:ev (lk ts) x = some (.iptr (flat cW xs))) (hl:z ≤ xs.length) (h0:Nat.blt 0 z = true)
  (hN : Nat.blt d N = true) {md' : Md} [hmd : MdA md (rO x ++ rA (.iptr (flat cW xs))) [.inl d] md'] (kk : RW P N all Q md' rest ⟨(d,.agg (flat cW (xs.take z))) :: ts,hs,n,z0⟩) : RW P N all Q md (⟨some d,.load t x,ty,pos,af,none⟩ :: rest) ⟨ts,hs,n,z0⟩ := by
 have e2 : (flat cW xs).take z = flat cW (xs.take z) := by have := flat_take cW (e := 1) xs z;rw [Nat.mul_one] at this;exact this
 exact rw_loadA (cs := flat cW xs) hx ha.pf hz.pf rfl e2 (by rw [flatW_len,List.length_take]; omega) (by have := ltb h0;omega) (ltb hN) (by rw [hmd.pf]; exact kk)
end
def accF (ts : List Int) (x : Pnt) (m : Bool) : List Acc :=
 (if x.op = 4 ∨ x.op = 6 then [⟨x.y,false⟩] else if x.op = 5 then [⟨x.y,true⟩] else if x.op = 7 ∨ x.op = 8 then [⟨x.x,true⟩] else if x.op = 3 ∧ tkT ts[x.y.toNat]! = true then [⟨x.y,true⟩] else []) ++
 (if 0 ≤ setAt x ∧ ts[(setAt x).toNat]! = 2 ∧ m = true then [⟨setAt x,true⟩] else [])
def orL (f : List Nat) (L : List Int) (a : Nat) : Nat := L.foldl (fun a v => a ||| f[v.toNat]!) a
def kpF (ts : List Int) (x : Pnt) (live : Nat) (f : List Nat) : Nat := orL f (bitsI (anl live (wS ts x [2] ||| sbit x))) 0
theorem testBit_orL (f:List Nat) (l:Nat):∀ (L:List Int) (a:Nat),(orL f L a).testBit l = true ↔ a.testBit l = true ∨ ∃ v ∈ L,f[v.toNat]!.testBit l = true
 | [],a => by simp [orL]
 | v :: L, a => by
  show (orL f L (a ||| f[v.toNat]!)).testBit l = true ↔ _
  rw [testBit_orL f l L,Nat.testBit_or,Bool.or_eq_true]
  simp only [List.mem_cons,exists_eq_or_imp]
  grind
def agA (pts : List Pnt) (wr : Bool) (L : List Int) (a : Nat) : Nat := L.foldl (fun a l => if wr = true ∨ pts[l.toNat]!.op = 5 then a ||| 2 ^ l.toNat else a) a
def agF (pts : List Pnt) (loans : Nat) (acs : List Acc) (a : Nat) : Nat := acs.foldl (fun a c => agA pts c.write (bitsI (loans &&& ofV pts (2 ^ c.var.toNat))) a) a
theorem testBit_agA (pts:List Pnt) (wr:Bool) (l:Nat):∀ (L:List Int) (a:Nat),(agA pts wr L a).testBit l = true ↔ a.testBit l = true ∨ ((∃ z ∈ L,z.toNat = l) ∧ (wr = true ∨ pts[l]!.op = 5))
 | [],a => by simp [agA]
 | z :: L, a => by
  show (agA pts wr L (if wr = true ∨ pts[z.toNat]!.op = 5 then a ||| 2 ^ z.toNat else a)).testBit l = true ↔ _
  rw [testBit_agA pts wr l L]
  have h2 : ∀ b : Nat, (a ||| 2 ^ b).testBit l = true ↔ a.testBit l = true ∨ b = l := by
   intro b
   rw [Nat.testBit_or,Bool.or_eq_true,Nat.testBit_two_pow,decide_eq_true_eq]
  split
  ·rename_i h
   rw [h2]
   simp only [List.mem_cons,exists_eq_or_imp]
   constructor
   ·rintro ((h1 | rfl) | ⟨h1, h3⟩)
    ·exact .inl h1
    ·exact .inr ⟨.inl rfl,h⟩
    ·exact .inr ⟨.inr h1,h3⟩
   ·rintro (h1 | ⟨rfl | h1, h3⟩)
    ·exact .inl (.inl h1)
    ·exact .inl (.inr rfl)
    ·exact .inr ⟨h1,h3⟩
  ·rename_i h
   simp only [List.mem_cons,exists_eq_or_imp]
   constructor
   ·rintro (h1 | ⟨h1, h3⟩)
    ·exact .inl h1
    ·exact .inr ⟨.inr h1,h3⟩
   ·rintro (h1 | ⟨rfl | h1, h3⟩)
    ·exact .inl h1
    ·exact absurd h3 h
    ·exact .inr ⟨h1,h3⟩
theorem testBit_agF (pts:List Pnt) (loans l:Nat) (hl:Sm loans):∀ (acs:List Acc) (a:Nat),(agF pts loans acs a).testBit l = true ↔ a.testBit l = true ∨ ∃ c ∈ acs,loans.testBit l = true ∧ (ofV pts (2 ^ c.var.toNat)).testBit l = true ∧ (c.write = true ∨ pts[l]!.op = 5)
 | [],a => by simp [agF]
 | c :: acs, a => by
  show (agF pts loans acs (agA pts c.write (bitsI (loans &&& ofV pts (2 ^ c.var.toNat))) a)).testBit l = true ↔ _
  rw [testBit_agF pts loans l hl acs,testBit_agA]
  have h2 : (∃ z ∈ bitsI (loans &&& ofV pts (2 ^ c.var.toNat)), z.toNat = l) ↔ loans.testBit l = true ∧ (ofV pts (2 ^ c.var.toNat)).testBit l = true := by
   constructor
   ·rintro ⟨z, hz, rfl⟩
    obtain ⟨v,h1,h3,rfl⟩ := mem_bitsI.1 hz
    rw [Nat.testBit_and,Bool.and_eq_true] at h3;exact h3
   ·intro h
    have : l < 62 := lt_of_bits hl.pf h.1
    exact ⟨(l : Int),mem_bitsI.2 ⟨l,this,by rw [Nat.testBit_and,h.1,h.2]; rfl,rfl⟩,rfl⟩
  rw [h2]
  simp only [List.mem_cons,exists_eq_or_imp]
  grind
theorem accF_len (ts:List Int) (x:Pnt) (m:Bool):(accF ts x m).length ≤ 2:=by
 unfold accF;rw [List.length_append]
 have h1 : ∀ (c : Prop) [Decidable c] (a b : List Acc), a.length ≤ 1 → b.length ≤ 1 → (if c then a else b).length ≤ 1 := by
  intro c _ a b h h2;split <;> assumption
 have a1 := h1 (x.op = 3 ∧ tkT ts[x.y.toNat]! = true) [⟨x.y,true⟩] [] (by simp) (by simp)
 have a2 := h1 (x.op = 7 ∨ x.op = 8) [⟨x.x,true⟩] _ (by simp) a1
 have a3 := h1 (x.op = 5) [⟨x.y,true⟩] _ (by simp) a2
 have a4 := h1 (x.op = 4 ∨ x.op = 6) [⟨x.y,false⟩] _ (by simp) a3
 have a5 := h1 (0 ≤ setAt x ∧ ts[(setAt x).toNat]! = 2 ∧ m = true) [⟨setAt x,true⟩] [] (by simp) (by simp)
 omega
theorem accF_ok {ts:List Int}{pts:List Pnt}(m:Bool) (w:WG ts pts){i:Nat}(hi:i < pts.length):∀ c ∈ accF ts pts[i]! m,0 ≤ c.var ∧ c.var < ts.length:=by
 have hst := w.set i hi
 have hx := w.x i hi
 have hy := w.y i hi
 intro c hc
 unfold accF at hc
 rw [List.mem_append] at hc
 rcases hc with hc|hc
 ·repeat' split at hc
  all_goals first
   | (rw [List.mem_singleton] at hc;subst hc;dsimp only;omega)
   | cases hc
 ·split at hc
  ·rw [List.mem_singleton] at hc;subst hc;dsimp only;omega
  ·cases hc
def issU (i : Nat) (L : List Int) : List Iss := L.map fun v => ⟨i,1,v⟩
def issC (pts : List Pnt) (i : Nat) (L : List Int) : List Iss := L.map fun l => ⟨i,if pts[l.toNat]!.op = 5 then 3 else 2,l⟩
def cfN (ts : List Int) (pts : List Pnt) (Am Al Af Ap : List Nat) (i : Nat) : Nat :=
 agF pts (kpF ts pts[i]! Al[i]! (row6 Af i) &&& Ap[i]!) (accF ts pts[i]! (Am[i]!.testBit (setAt pts[i]!).toNat)) 0
def issP (ts : List Int) (pts : List Pnt) (Aa Am Al Af Ap : List Nat) (i : Nat) : List Iss :=
 issU i (bitsI (anl (wS ts pts[i]! [1,2,3]) Aa[i]!)) ++ issC pts i (bitsI (cfN ts pts Am Al Af Ap i))
def issF (ts : List Int) (pts : List Pnt) (Aa Am Al Af Ap : List Nat) (k : Nat) : List Iss := (List.range k).flatMap (issP ts pts Aa Am Al Af Ap)
theorem issF_succ (ts:List Int) (pts:List Pnt) (Aa Am Al Af Ap:List Nat) (k:Nat):issF ts pts Aa Am Al Af Ap (k + 1) = issF ts pts Aa Am Al Af Ap k ++ issP ts pts Aa Am Al Af Ap k:=by
 unfold issF;rw [List.range_succ,List.flatMap_append]; simp
theorem map_take_succ {α β:Type}[Inhabited α] (g:α → β) (L:List α) (k:Nat) (h:k < L.length):(L.take (k + 1)).map g = (L.take k).map g ++ [g L[k]!]:=by
 rw [take_succB _ _ h,List.map_append]; rfl
theorem app_iss {xs:List Iss}{m:Nat}{a b c:Int}(hm:m = xs.length):((flat cIss xs).drop 0).take (m * 3) ++ [iv a,iv b,iv c] = flat cIss (xs ++ [⟨a,b,c⟩]) := app_flat hm rfl
theorem cfN_lt {ts:List Int}{pts:List Pnt}(w:WG ts pts){Am Al Af Ap:List Nat}{i:Nat}(hp:Ap[i]! < 2 ^ pts.length):cfN ts pts Am Al Af Ap i < 2 ^ pts.length:=by
 have hpl := w.pl
 have hl : kpF ts pts[i]! Al[i]! (row6 Af i) &&& Ap[i]! < 2 ^ pts.length := Nat.and_lt_two_pow _ hp
 apply Nat.lt_pow_two_of_testBit
 intro l hl2
 unfold cfN
 cases hq : (agF pts (kpF ts pts[i]! Al[i]! (row6 Af i) &&& Ap[i]!) (accF ts pts[i]! (Am[i]!.testBit (setAt pts[i]!).toNat)) 0).testBit l with
 | false => rfl
 | true =>
  rw [testBit_agF _ _ _ ⟨Nat.lt_of_lt_of_le hl (Nat.pow_le_pow_right (by decide) (by omega))⟩] at hq
  rcases hq with hq | ⟨c,_,h2,_⟩
  ·simp at hq
  ·have := lt_of_bits hl h2;omega
theorem Mb_lt {ts:List Int}{pts:List Pnt}(w:WG ts pts){a:Nat × Nat}(h:Mb ts pts a):a.2 < ts.length:=by
 induction h with
 | base h => obtain ⟨i,e,h2⟩ := h;have := (w.set i e.1).1;omega
 | step _ r ih => rw [r.1]; exact ih
section
theorem rx_makeFuncFrz {fn:Go.Fn}{t i:Nat}{cs:List AV}(hx:lk ts t = some (.optr i 0)) (hH:lkH hs i = some cs) (hN:Nat.blt d N = true)
  (kk : RW P N all Q .txt rest ⟨(d,.clos fn [] [.iptr cs]) :: (t,.iptr cs) :: ts,(i,none) :: hs,n,z0⟩) : RW P N all Q .txt (⟨some d,.makeFunc fn #[] #[.tmp t],ty,pos,af,none⟩ :: rest) ⟨ts,hs,n,z0⟩ :=
 rw_le (rx_makeFunc (f := []) (c := [.iptr cs]) rfl (by show evL _ [Operand.tmp t] = _; simp [evL,ev,lk_c]) hN (md' := .txt) kk) (Le.frzP hx hH)
end
structure Flows (ts : List Int) (pts : List Pnt) where
 Aa : List Nat
 Am : List Nat
 An : List Nat
 Al : List Nat
 Af : List Nat
 Ap : List Nat
 ga : GoodA ts pts Aa
 gm : GoodM ts pts Am
 gn : GoodN ts pts An
 gl : GoodL ts pts Al
 gf : GoodF ts pts Af
 gp : GoodP ts pts Ap
theorem ex_bits (n m:Nat) (T:Nat → Nat → Prop) (h:∀ i v,i < n → T i v → v < m):∃ A:List Nat,A.length = n ∧ ∀ i,i < n → ∀ v,A[i]!.testBit v = true ↔ T i v:=by
 have key : ∀ i : Nat, ∃ f : Nat → Bool, ∀ v, f v = true ↔ T i v := fun i => by
  have : ∀ v, ∃ b : Bool, b = true ↔ T i v := fun v => by
   by_cases hT : T i v
   ·exact ⟨true,by simp [hT]⟩
   ·exact ⟨false,by simp [hT]⟩
  exact ⟨fun v => Classical.choose (this v),fun v => Classical.choose_spec (this v)⟩
 refine ⟨(List.range n).map (fun i => mkBits (Classical.choose (key i)) m),by simp,fun i hi v => ?_⟩
 rw [getB _ _ (by simpa using hi),List.getElem_map,List.getElem_range,testBit_mkBits,Bool.and_eq_true,decide_eq_true_eq,Classical.choose_spec (key i) v]
 exact ⟨fun h2 => h2.2,fun h2 => ⟨h i v hi h2,h2⟩⟩
theorem Flows.ex {ts:List Int}{pts:List Pnt}(w:WG ts pts):Nonempty (Flows ts pts):=by
 obtain ⟨Aa,a1,a2⟩ := ex_bits pts.length ts.length (fun i v => v < ts.length ∧ ¬ Na ts pts (i,v)) (fun i v _ h => h.1)
 obtain ⟨Am,b1,b2⟩ := ex_bits pts.length ts.length (fun i v => Mb ts pts (i,v)) (fun i v _ h => Mb_lt w h)
 obtain ⟨An,c1,c2⟩ := ex_bits pts.length ts.length (fun i v => Nd ts pts (i,v)) (fun i v _ h => Nd_lt w h)
 obtain ⟨Al,d1,d2⟩ := ex_bits pts.length ts.length (fun i v => Lv ts pts i v) (fun i v _ h => by obtain ⟨k,_,h⟩ := h;exact Nd_lt w h)
 obtain ⟨Ap,e1,e2⟩ := ex_bits pts.length pts.length (fun i l => Pl' ts pts (i,l)) (fun i v _ h => (Pl_ln h).1)
 obtain ⟨Af,f1,f2⟩ := ex_bits (pts.length * 6) pts.length (fun q l => Fr' ts pts (q / 6,q % 6,l)) (fun q v _ h => (Fr_lt w h).2.2)
 refine ⟨⟨Aa,Am,An,Al,Af,Ap,⟨a1,a2⟩,⟨b1,b2⟩,⟨c1,c2⟩,⟨d1,d2⟩,⟨f1,fun i v hi hv l => ?_⟩,⟨e1,e2⟩⟩⟩
 rw [f2 (i * 6 + v) (by omega) l,show (i * 6 + v) / 6 = i by omega,show (i * 6 + v) % 6 = v by omega]
def Flows.iss {ts : List Int} {pts : List Pnt} (f : Flows ts pts) : List Iss := issF ts pts f.Aa f.Am f.Al f.Af f.Ap pts.length
class BoT (P : Program) (t : Nat) : Prop where pf : P.underlying t = some .bool
theorem run_eqB {P:Program}{t:TypeId}(h:P.underlying t = some .bool) (a b:Bool) (w:World):(Op.equal t (.bool a) (.bool b)).run P w = .ok (decide (a = b)) w:=by
 have e : ∀ d : Nat, (Op.equalIn (d + 1) t (.bool a) (.bool b)).run P w = .ok (a == b) w := fun d => by
  simp [Op.equalIn,run_underlying h]
 have : (a == b) = decide (a = b) := by cases a <;> cases b <;> rfl
 rw [← this]; exact e 9999
def bbin (op : BinOp) (a b : Bool) : Option Value :=
 match op with
 | .eql => some (.bool (decide (a = b)))
 | .neq => some (.bool (!decide (a = b)))
 | _ => none
section
variable {P : Program} {C : Ctx} {ι : Pl} {T : Nat → Option AV} {H : Nat → Option (List AV)} {a : Act} {w : World} {o : Oper}
theorem pu_bbin (g:TG C ι T H a w){op:BinOp}{t t':TypeId}{x y:Operand}{m n:Bool}{v:Value}(ht:P.underlying t = some .bool) (ho:o.op = .binOp op t x y t')
  (hx : ev T x = some (.v (.bool m))) (hy : ev T y = some (.v (.bool n))) (h : bbin op m n = some v) : Pu P C ι H a w o (.v v) := by
 have h1 := ev_ok g hx
 have h2 := ev_ok g hy
 simp only [Rd] at h1 h2
 refine ⟨v,?_,by simp [Rd]⟩
 have hg : (eqGuard op t x y (.bool m) (.bool n)).run P w = .ok () w := by
  unfold eqGuard
  cases op <;> simp
 have hb : (binOp op t (.bool m) (.bool n)).run P w = .ok v w := by
  cases op <;> simp only [bbin] at h <;> cases h
  ·simp [binOp,run_eqB (P := P) ht]
  ·simp [binOp,run_eqB (P := P) ht]
 simp only [execOp,ho,h1,h2,Sem.run_bind,hg,Result.andThen_ok,hb,Sem.run_pure]
end
section
theorem rx_bbin {op:BinOp}{t t':TypeId}{x y:Operand}{m m':Bool}{v:Value}[ht:BoT P t] (hx:ev (lk ts) x = some (.v (.bool m))) (hy:ev (lk ts) y = some (.v (.bool m')))
  (h : bbin op m m' = some v) (hN : Nat.blt d N = true) {md' : Md} [hmd : MdA md (rO x ++ rO y) [.inl d] md'] (kk : RW P N all Q md' rest ⟨(d,.v v) :: ts,hs,n,z0⟩) : RW P N all Q md (⟨some d,.binOp op t x y t',ty,pos,af,none⟩ :: rest) ⟨ts,hs,n,z0⟩ :=
 rw_pu rfl rfl (ltb hN) (fun C ι F T H a w ag g gh => pu_bbin g ht.pf rfl (ag.l.ev.trans hx) (ag.r.ev.trans hy) h) (by rw [hmd.pf]; exact kk)
end
theorem sC_imm {α:Type}{f:α → List AV}{e m:Nat}[h:FlT f e] {ys:List α}{H:Nat → Option (List AV)}(hm:m = ys.length):sCells H e (kAV (.imm m (flat f ys))) = some (m,flat f ys):=by
 subst hm
 have hl : (flat f ys).length = ys.length * e := flat_length f ys
 show (if ys.length * e ≤ (flat f ys).length then some (ys.length,(flat f ys).take (ys.length * e)) else none) = _
 rw [if_pos (by omega),List.take_of_length_le (by omega)]
theorem app_nilF {α:Type}{f:α → List AV}{ys:List α}{e m:Nat}{L:List AV}(h:m = 0):(((List.replicate 0 L).flatten).drop 0).take (m * e) ++ flat f ys = flat f ys := by subst h;simp
theorem Le.cells {ts:List (Nat × AV)}{hs:List (Nat × Option (List AV))}{n:Nat}{z0:Lo}{i:Nat}{cs cs':List AV}(hi:lkH hs i = some cs) (hl:cs'.length = cs.length)
  (h : ∀ (w : World) (bad : Nat → Prop) (ι : Pl) (b β : Nat),RdC w bad ι cs b β → RdC w bad ι cs' b β) :
  Le ⟨ts,hs,n,z0⟩ ⟨ts,(i,some cs') :: hs,n,z0⟩ := by
 rintro C a w ⟨h0,ι,g,gh⟩
 have hk : ∀ id c, lkH ((i, some cs') :: hs) id = some c → (id = i ∧ c = cs') ∨ (id ≠ i ∧ lkH hs id = some c) := by
  intro id c hc
  rw [lkH_c] at hc
  split at hc
  ·rename_i e;cases hc;exact .inl ⟨e,rfl⟩
  ·rename_i e;exact .inr ⟨fun h => e h,hc⟩
 have hk2 : ∀ id c, lkH hs id = some c → ∃ c', lkH ((i, some cs') :: hs) id = some c' := by
  intro id c hc
  rw [lkH_c]
  split
  ·exact ⟨_,rfl⟩
  ·exact ⟨_,hc⟩
 have hb : badOf C.X ι (lkH ((i, some cs') :: hs)) = badOf C.X ι (lkH hs) := by
  funext b
  refine propext ⟨?_,?_⟩
  ·rintro (h | ⟨id, c, β, h1, h2⟩)
   ·exact .inl h
   ·rcases hk id c h1 with ⟨rfl, _⟩ | ⟨_, h3⟩
    ·exact .inr ⟨_,_,_,hi,h2⟩
    ·exact .inr ⟨_,_,_,h3,h2⟩
  ·rintro (h | ⟨id, c, β, h1, h2⟩)
   ·exact .inl h
   ·obtain ⟨c', h3⟩ := hk2 id c h1
    exact .inr ⟨_,_,_,h3,h2⟩
 refine ⟨h0,ι,⟨g.df,g.sz,fun t av ht => ?_⟩,?_,?_,gh.fr,gh.ex,gh.fresh⟩
 ·show ∃ y, a.tmps[t]? = some y ∧ Rd w (badOf C.X ι (lkH ((i, some cs') :: hs))) ι av y
  rw [hb]; exact g.tm t av ht
 ·intro id c hc
  show _ ∨ ∃ b β arr e,ι id = some (some (b,β)) ∧ w.heap[b]? = some (.cells arr e (0,0)) ∧ β + c.length ≤ arr.size ∧ RdC w (badOf C.X ι (lkH ((i,some cs') :: hs))) ι c b β ∧ ¬ C.X b ∧ (C.W0 b ∨ C.w0.heap.size ≤ b)
  rw [hb]
  rcases hk id c hc with ⟨rfl,rfl⟩ | ⟨_,h3⟩
  ·rcases gh.obj _ _ hi with ⟨q1, q2⟩ | ⟨b, β, arr, e, q1, q2, q3, q4, q5⟩
   ·subst q2
    exact .inl ⟨q1,List.eq_nil_of_length_eq_zero hl⟩
   ·exact .inr ⟨b,β,arr,e,q1,q2,by rw [hl]; exact q3,h _ _ _ _ _ q4,q5⟩
  ·exact gh.obj _ _ h3
 ·intro id id' c c' b β β' h1 h2 h3 h4
  obtain ⟨d1, e1⟩ : ∃ d, lkH hs id = some d := by
   rcases hk id c h1 with ⟨rfl,_⟩ | ⟨_,h⟩
   ·exact ⟨_,hi⟩
   ·exact ⟨_,h⟩
  obtain ⟨d2, e2⟩ : ∃ d, lkH hs id' = some d := by
   rcases hk id' c' h2 with ⟨rfl,_⟩ | ⟨_,h⟩
   ·exact ⟨_,hi⟩
   ·exact ⟨_,h⟩
  exact gh.sep id id' d1 d2 b β β' e1 e2 h3 h4
def cBB (r : List Bool) : List AV := [sl cB r]
instance : FlT cBB 1:=⟨fun _ => rfl⟩
instance : FE cBB (fun r => [sl cB r]):=⟨fun _ => rfl⟩
instance (r : List Bool) : Pur (cBB r):=⟨by show (AV.pur (sl cB r) && true) = true;rw [Bool.and_true]; exact pur_sl cB r⟩
theorem RdC_nil {w:World}{bad:Nat → Prop}{ι:Pl}{b:Nat}:∀ (m β:Nat),RdC w bad ι ((List.replicate m ([Value.slice none 0 0].map AV.v)).flatten) b β → RdC w bad ι (flat cBB (List.replicate m [])) b β
 | 0,_,_ => trivial
 | m + 1, β, h => by
  rw [List.replicate_succ,List.flatten_cons] at h
  rw [List.replicate_succ]
  obtain ⟨⟨x,h1,h2,h3⟩,h4⟩ := h
  exact ⟨⟨x,h1,h2,Rd_kAV (av := .v (.slice none 0 0)) h3⟩,RdC_nil m (β + 1) h4⟩
theorem Le.nilRows {ts:List (Nat × AV)}{hs:List (Nat × Option (List AV))}{n:Nat}{z0:Lo}{i m:Nat}(hi:lkH hs i = some ((List.replicate m ([Value.slice none 0 0].map AV.v)).flatten)) :
  Le ⟨ts,hs,n,z0⟩ ⟨ts,(i,some (flat cBB (List.replicate m []))) :: hs,n,z0⟩ :=
 Le.cells hi (by rw [flat_length]; simp) fun w bad ι b β h => RdC_nil m β h
theorem ext_get {α:Type}[Inhabited α] {a b:List α}(hl:a.length = b.length) (h:∀ i,i < a.length → a[i]! = b[i]!):a = b:=by
 refine List.ext_getElem hl fun i h1 h2 => ?_
 have := h i h1
 rwa [getB _ _ h1,getB _ _ h2] at this
theorem set_get {α:Type}[Inhabited α] (xs:List α) (i j:Nat) (x:α):(xs.set i x)[j]! = if i = j ∧ j < xs.length then x else xs[j]!:=by
 by_cases hj : j < xs.length
 ·rw [getB _ _ (by simpa using hj),List.getElem_set,getB _ _ hj]; grind
 ·rw [getElem!_neg (xs.set i x) j (by simpa using hj),getElem!_neg xs j hj,if_neg (by omega)]
theorem mapR_get {α:Type}[Inhabited α] (f:Nat → α) (n i:Nat) (h:i < n):(((List.range n).map f:List α))[i]! = f i:=by
 rw [getB _ i (by simpa using h)]; simp
theorem rep_get {α:Type}[Inhabited α] (x:α) (n i:Nat) (h:i < n):(List.replicate n x:List α)[i]! = x:=by
 rw [getB _ i (by simpa using h)]; simp
def aftB (ts : List Int) (x : Pnt) (b : List Bool) : List Bool := (List.range b.length).map fun (v : Nat) => decide (setAt x = (v : Int)) || (b[v]! && !decide (useAt ts x v = 2))
def jnB (o a : List Bool) (all : Bool) : List Bool := (List.range a.length).map fun (v : Nat) => if v < o.length then (if all then o[v]! && a[v]! else o[v]! || a[v]!) else a[v]!
theorem aftB_len (ts:List Int) (x:Pnt) (b:List Bool):(aftB ts x b).length = b.length := by simp [aftB]
theorem jnB_len (o a:List Bool) (all:Bool):(jnB o a all).length = a.length := by simp [jnB]
theorem aftB_get (ts:List Int) (x:Pnt) (b:List Bool) (v:Nat) (h:v < b.length):(aftB ts x b)[v]! = (decide (setAt x = (v:Int)) || (b[v]! && !decide (useAt ts x v = 2))) := mapR_get _ _ _ h
theorem jnB_get (o a:List Bool) (all:Bool) (v:Nat) (h:v < a.length):(jnB o a all)[v]! = if v < o.length then (if all then o[v]! && a[v]! else o[v]! || a[v]!) else a[v]! := mapR_get _ _ _ h
end Go.AL
