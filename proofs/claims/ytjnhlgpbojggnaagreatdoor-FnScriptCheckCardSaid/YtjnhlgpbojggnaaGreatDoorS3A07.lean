/-
 A part of the proofs over this program: rules and contracts of its functions (the rules).
-/
import Derived.Test.YtjnhlgpbojggnaaGreatDoorS3A06
set_option linter.unusedVariables false
set_option linter.unusedSimpArgs false
namespace Go.AL
open Go.RowKit
theorem app_get {α:Type}[Inhabited α] (xs ys:List α) (i:Nat):(xs ++ ys)[i]! = if i < xs.length then xs[i]! else ys[i - xs.length]!:=by
 by_cases h : i < xs.length
 ·rw [if_pos h,getB _ i (by simp;omega),getB _ i h,List.getElem_append_left h]
 ·rw [if_neg h]
  by_cases h2 : i - xs.length < ys.length
  ·rw [getB (xs ++ ys) i (by simp;omega),getB _ _ h2,List.getElem_append_right (by omega)]
  ·rw [getElem!_neg (xs ++ ys) i (by simp;omega),getElem!_neg ys _ h2]
theorem g4_0 {α:Type}[Inhabited α] (p q:α) (A B:List α):([p] ++ A ++ [q] ++ B)[0]! = p := by rw [app_get,app_get,app_get]; simp
theorem g4_A {α:Type}[Inhabited α] (p q:α) (A B:List α) (k:Nat) (h:k < A.length):([p] ++ A ++ [q] ++ B)[1 + k]! = A[k]!:=by
 rw [app_get,if_pos (by simp;omega),app_get,if_pos (by simp;omega),app_get,if_neg (by simp)]
 congr 1;simp
theorem g4_B {α:Type}[Inhabited α] (p q:α) (A B:List α) (k:Nat):([p] ++ A ++ [q] ++ B)[2 + A.length + k]! = B[k]!:=by
 rw [app_get,if_neg (by simp;omega)]
 congr 1;simp;omega
mutual
theorem ptS_pre:∀ (s:Stmt) (b i:Nat),b < i → i ≤ b + npS s → ∃ j,b ≤ j ∧ j < i ∧ j < b + npS s ∧ (i:Int) ∈ (ptS b s)[j - b]!.next
 | .mk op x y n th el, b, i, h1, h2 => by
  have hA := ptL_len th (b + 1)
  have hB := ptL_len el (b + 2 + npL th)
  by_cases h9 : op = 9
  ·subst h9
   simp only [npS,if_true] at h2 ⊢
   simp only [ptS,if_true]
   by_cases c1 : i = b + 1
   ·refine ⟨b, by omega, by omega, by omega, ?_⟩
    rw [Nat.sub_self,g4_0]; simp;omega
   ·by_cases c2 : i ≤ b + 1 + npL th
    ·obtain ⟨j, e1, e2, e3, e4⟩ := ptL_pre th (b + 1) i (by omega) c2
     refine ⟨j,by omega,by omega,by omega,?_⟩
     rw [show j - b = 1 + (j - (b + 1)) by omega,g4_A _ _ _ _ _ (by omega)]; exact e4
    ·by_cases c3 : i = b + 2 + npL th
     ·refine ⟨b, by omega, by omega, by omega, ?_⟩
      rw [Nat.sub_self,g4_0]; simp;omega
     ·obtain ⟨j, e1, e2, e3, e4⟩ := ptL_pre el (b + 2 + npL th) i (by omega) (by omega)
      refine ⟨j,by omega,by omega,by omega,?_⟩
      rw [show j - b = 2 + (ptL (b + 1) th).length + (j - (b + 2 + npL th)) by omega,g4_B]; exact e4
  ·by_cases h10 : op = 10
   ·subst h10
    simp only [npS,if_true,show ((10 : Int) = 9) = False by simp,if_false] at h2 ⊢
    simp only [ptS,if_true,show ((10 : Int) = 9) = False by simp,if_false]
    rw [← List.append_nil ([_] ++ _ ++ [_])]
    by_cases c1 : i = b + 1
    ·refine ⟨b, by omega, by omega, by omega, ?_⟩
     rw [Nat.sub_self,g4_0]; simp;omega
    ·by_cases c2 : i ≤ b + 1 + npL th
     ·obtain ⟨j, e1, e2, e3, e4⟩ := ptL_pre th (b + 1) i (by omega) c2
      refine ⟨j,by omega,by omega,by omega,?_⟩
      rw [show j - b = 1 + (j - (b + 1)) by omega,g4_A _ _ _ _ _ (by omega)]; exact e4
     ·refine ⟨b, by omega, by omega, by omega, ?_⟩
      rw [Nat.sub_self,g4_0]; simp;omega
   ·simp only [npS, h9, h10, if_false] at h2 ⊢
    simp only [ptS,h9,h10,if_false]
    refine ⟨b,by omega,by omega,by omega,?_⟩
    rw [Nat.sub_self]; simp;omega
theorem ptL_pre:∀ (l:List Stmt) (b i:Nat),b < i → i ≤ b + npL l → ∃ j,b ≤ j ∧ j < i ∧ j < b + npL l ∧ (i:Int) ∈ (ptL b l)[j - b]!.next
 | [],b,i,h1,h2 => by simp only [npL] at h2;omega
 | s :: l, b, i, h1, h2 => by
  have hS := ptS_len s b
  simp only [npL] at h2 ⊢
  simp only [ptL]
  by_cases c : i ≤ b + npS s
  ·obtain ⟨j, e1, e2, e3, e4⟩ := ptS_pre s b i h1 c
   refine ⟨j,by omega,by omega,by omega,?_⟩
   rw [app_get,if_pos (by omega)]; exact e4
  ·obtain ⟨j, e1, e2, e3, e4⟩ := ptL_pre l (b + npS s) i (by omega) (by omega)
   refine ⟨j,by omega,by omega,by omega,?_⟩
   rw [app_get,if_neg (by omega),hS,show j - b - npS s = j - (b + npS s) by omega]; exact e4
end
def Rch (pts : List Pnt) : Prop := ∀ i,0 < i → i < pts.length → ∃ j,j < i ∧ edge pts j i
theorem Rch.of (p:Prg):Rch (ptsF p):=by
 intro i h1 h2
 rw [ptsF_len] at h2
 obtain ⟨j,e1,e2,e3,e4⟩ := ptL_pre p.body 0 i h1 (by omega)
 refine ⟨j,e2,by rw [ptsF_len]; omega,?_⟩
 unfold ptsF
 rw [app_get,if_pos (by rw [ptL_len]; omega)]
 exact e4
def sumF (f : Nat → Nat) : Nat → Nat
 | 0 => 0
 | n + 1 => sumF f n + f n
theorem sumF_le {f g:Nat → Nat}:∀ n,(∀ i,i < n → f i ≤ g i) → sumF f n ≤ sumF g n
 | 0,_ => Nat.le_refl _
 | n + 1,h => Nat.add_le_add (sumF_le n fun i hi => h i (by omega)) (h n (by omega))
theorem sumF_lt {f g:Nat → Nat}:∀ n,(∀ i,i < n → f i ≤ g i) → (∃ i,i < n ∧ f i < g i) → sumF f n < sumF g n
 | 0,_,⟨i,h,_⟩ => by omega
 | n + 1, h, ⟨i, hi, hlt⟩ => by
  show sumF f n + f n < sumF g n + g n
  have h1 := sumF_le n fun i hi => h i (by omega)
  have h2 := h n (by omega)
  by_cases e : i = n
  ·subst e;omega
  ·have := sumF_lt n (fun i hi => h i (by omega)) ⟨i, by omega, hlt⟩
   omega
theorem sumF_one:∀ n,sumF (fun _ => 1) n = n
 | 0 => rfl
 | n + 1 => by show sumF _ n + 1 = _; rw [sumF_one n]
def mvd (all : Bool) (b : List Bool) (v : Nat) : Bool := b[v]! != all
structure Fw where
 out : List (List Bool)
 seen : List Bool
 work : List Int
def fwT (ts : List Int) (pts : List Pnt) (all : Bool) (a : Nat × Nat) : Prop := if all = true then Na ts pts a else Mb ts pts a
theorem jn_mvd (all:Bool) (o a:List Bool) (v:Nat) (h:v < a.length):mvd all (jnB o a all) v = if v < o.length then mvd all o v || mvd all a v else mvd all a v:=by
 unfold mvd
 rw [jnB_get _ _ _ _ h]
 split
 ·cases all <;> cases o[v]! <;> cases a[v]! <;> rfl
 ·rfl
theorem aft_T {ts:List Int}{pts:List Pnt}{all:Bool}{i k v:Nat}{b:List Bool}(e:edge pts i k) (hv:v < ts.length) (hb:b.length = ts.length) (hT:mvd all b v = true → fwT ts pts all (i,v))
  (h : mvd all (aftB ts pts[i]! b) v = true) : fwT ts pts all (k,v) := by
 unfold mvd at h hT
 unfold fwT at *
 rw [aftB_get _ _ _ _ (by omega)] at h
 cases all with
 | false =>
  simp only [Bool.false_eq_true,if_false,Bool.bne_false,Bool.or_eq_true,decide_eq_true_eq,Bool.and_eq_true,Bool.not_eq_true',decide_eq_false_iff_not] at h hT ⊢
  rcases h with h | ⟨h1,h2⟩
  ·exact .base ⟨i,e,h⟩
  ·exact .step (hT h1) ⟨rfl,e,h2⟩
 | true =>
  simp only [if_true,Bool.bne_true,Bool.not_eq_true',Bool.or_eq_false_iff,decide_eq_false_iff_not,Bool.and_eq_false_iff,Bool.not_eq_false',decide_eq_true_eq] at h hT ⊢
  rcases h with ⟨h1,h2|h2⟩
  ·exact .step (hT h2) ⟨rfl,e,h1⟩
  ·exact .base ⟨hv,.inr ⟨i,e,h2,h1⟩⟩
structure FI (ts : List Int) (pts : List Pnt) (all : Bool) (s : Fw) : Prop where
 lo : s.out.length = pts.length
 ls : s.seen.length = pts.length
 a : ∀ i,i < pts.length → s.seen[i]! = true → s.out[i]!.length = ts.length
 b : ∀ i,i < pts.length → s.seen[i]! = false → s.out[i]! = []
 z : s.seen[0]! = true
 z1 : all = true → ∀ v,v < ts.length → mvd all s.out[0]! v = true
 t : ∀ i,i < pts.length → s.seen[i]! = true → ∀ v,v < ts.length → mvd all s.out[i]! v = true → fwT ts pts all (i,v)
 w : ∀ k,k ∈ s.work → 0 ≤ k ∧ k < pts.length ∧ s.seen[k.toNat]! = true
def potR (all : Bool) (nv : Nat) (seen : Bool) (b : List Bool) : Nat := if seen = true then sumF (fun v => if mvd all b v = true then 0 else 1) nv else nv + 1
def fwMu (all : Bool) (nv N : Nat) (s : Fw) : Nat := 3 * sumF (fun i => potR all nv s.seen[i]! s.out[i]!) N + s.work.length
theorem potR_le (all:Bool) (nv:Nat) (b:List Bool):potR all nv true b ≤ nv:=by
 unfold potR
 rw [if_pos rfl]
 have := sumF_le (f := fun v => if mvd all b v = true then 0 else 1) (g := fun _ => 1) nv (fun i _ => by split <;> omega)
 rw [sumF_one] at this
 exact this
theorem potR_lt {all:Bool}{nv:Nat}{b b':List Bool}(h1:b.length = nv) (h2:b'.length = nv) (hm:∀ v,v < nv → mvd all b v = true → mvd all b' v = true) (hne:b ≠ b'):potR all nv true b' < potR all nv true b:=by
 unfold potR
 rw [if_pos rfl,if_pos rfl]
 have : ∃ v, v < nv ∧ b[v]! ≠ b'[v]! := by
  apply Classical.byContradiction
  intro hc
  refine hne (ext_get (by omega) fun i hi => ?_)
  apply Classical.byContradiction
  intro hd
  exact hc ⟨i,by omega,hd⟩
 obtain ⟨v,hv,hd⟩ := this
 refine sumF_lt nv (fun i hi => ?_) ⟨v,hv,?_⟩
 ·have := hm i hi
  grind
 ·have := hm v hv
  unfold mvd at this ⊢
  revert this hd
  cases b[v]! <;> cases b'[v]! <;> cases all <;> simp
def fwP (all : Bool) (aft : List Bool) (s : Fw) (n : Nat) : Fw :=
 if s.seen[n]! = true ∧ s.out[n]! = jnB s.out[n]! aft all then s else ⟨s.out.set n (jnB s.out[n]! aft all),s.seen.set n true,s.work ++ [(n : Int)]⟩
structure FPush (ts : List Int) (pts : List Pnt) (all : Bool) (aft : List Bool) (n : Nat) (s s' : Fw) : Prop where
 I : FI ts pts all s'
 mu : fwMu all ts.length pts.length s' ≤ fwMu all ts.length pts.length s
 mono : ∀ k,k < pts.length → s.seen[k]! = true → s'.seen[k]! = true ∧ ∀ v,v < ts.length → mvd all s.out[k]! v = true → mvd all s'.out[k]! v = true
 sn : s'.seen[n]! = true
 mv : ∀ v,v < ts.length → mvd all aft v = true → mvd all s'.out[n]! v = true
 wk : ∀ x,x ∈ s.work → x ∈ s'.work
 ot : ∀ i,i ≠ n → s'.out[i]! = s.out[i]! ∧ s'.seen[i]! = s.seen[i]!
 or : (n : Int) ∈ s'.work ∨ s' = s
theorem fwP_ok {ts:List Int}{pts:List Pnt}{all:Bool}{s:Fw}{n:Nat}{aft:List Bool}(I:FI ts pts all s) (hn:n < pts.length) (ha:aft.length = ts.length)
  (hT : ∀ v,v < ts.length → mvd all aft v = true → fwT ts pts all (n,v)) : FPush ts pts all aft n s (fwP all aft s n) := by
 have hjl : (jnB s.out[n]! aft all).length = ts.length := by rw [jnB_len,ha]
 have hj := fun v (hv : v < ts.length) => jn_mvd all s.out[n]! aft v (by omega)
 unfold fwP
 split
 ·rename_i hc
  refine ⟨I,Nat.le_refl _,fun k _ h => ⟨h,fun _ _ h => h⟩,hc.1,fun v hv hm => ?_,fun _ h => h,fun _ _ => ⟨rfl,rfl⟩,.inr rfl⟩
  have hl := I.a n hn hc.1
  rw [hc.2,hj v hv,if_pos (by omega),hm,Bool.or_true]
 ·rename_i hc
  have hlo := I.lo
  have hls := I.ls
  have hmono : s.seen[n]! = true → ∀ v, v < ts.length → mvd all s.out[n]! v = true → mvd all (jnB s.out[n]! aft all) v = true := by
   intro hs v hv hm
   have hl := I.a n hn hs
   rw [hj v hv,if_pos (by omega),hm,Bool.true_or]
  have hot : ∀ i, i ≠ n → (s.out.set n (jnB s.out[n]! aft all))[i]! = s.out[i]! ∧ (s.seen.set n true)[i]! = s.seen[i]! := fun i hi => by
   rw [set_get,set_get,if_neg (by omega),if_neg (by omega)]; exact ⟨rfl,rfl⟩
  have hon : (s.out.set n (jnB s.out[n]! aft all))[n]! = jnB s.out[n]! aft all := by rw [set_get,if_pos (by omega)]
  have hsn : (s.seen.set n true)[n]! = true := by rw [set_get,if_pos (by omega)]
  refine ⟨⟨by simp;omega,by simp;omega,fun i hi h => ?_,fun i hi h => ?_,?_,fun h v hv => ?_,fun i hi h v hv hm => ?_,fun k hk => ?_⟩,?_,fun k hk h => ?_,hsn,fun v hv hm => ?_,fun x hx => List.mem_append_left _ hx,hot,.inl (by simp)⟩
  ·dsimp only at h ⊢
   by_cases e : i = n
   ·subst e;rw [hon]; exact hjl
   ·rw [(hot i e).1]; rw [(hot i e).2] at h;exact I.a i hi h
  ·dsimp only at h ⊢
   by_cases e : i = n
   ·subst e;rw [hsn] at h;cases h
   ·rw [(hot i e).1]; rw [(hot i e).2] at h;exact I.b i hi h
  ·dsimp only
   by_cases e : 0 = n
   ·subst e;exact hsn
   ·rw [(hot 0 e).2]; exact I.z
  ·dsimp only
   by_cases e : 0 = n
   ·subst e;rw [hon]; exact hmono I.z v hv (I.z1 h v hv)
   ·rw [(hot 0 e).1]; exact I.z1 h v hv
  ·dsimp only at h hm ⊢
   by_cases e : i = n
   ·subst e
    rw [hon,hj v hv] at hm
    split at hm
    ·rename_i hlt
     rw [Bool.or_eq_true] at hm
     rcases hm with hm|hm
     ·refine I.t i hi ?_ v hv hm
      cases hq : s.seen[i]! with
      | true => rfl
      | false => rw [I.b i hi hq] at hlt;simp at hlt
     ·exact hT v hv hm
    ·exact hT v hv hm
   ·rw [(hot i e).1] at hm; rw [(hot i e).2] at h
    exact I.t i hi h v hv hm
  ·dsimp only at hk ⊢
   rw [List.mem_append,List.mem_singleton] at hk
   rcases hk with hk|hk
   ·have := I.w k hk
    refine ⟨this.1,this.2.1,?_⟩
    by_cases e : k.toNat = n
    ·rw [e]; exact hsn
    ·rw [(hot _ e).2]; exact this.2.2
   ·subst hk;exact ⟨by omega,by omega,hsn⟩
  ·unfold fwMu
   dsimp only
   have : sumF (fun i => potR all ts.length (s.seen.set n true)[i]! (s.out.set n (jnB s.out[n]! aft all))[i]!) pts.length < sumF (fun i => potR all ts.length s.seen[i]! s.out[i]!) pts.length := by
    have hlt : potR all ts.length true (jnB s.out[n]! aft all) < potR all ts.length s.seen[n]! s.out[n]! := by
     cases hq : s.seen[n]! with
     | true => exact potR_lt (I.a n hn hq) hjl (hmono hq) (fun e => hc ⟨hq,e⟩)
     | false =>
      have h1 := potR_le all ts.length (jnB s.out[n]! aft all)
      have h2 : potR all ts.length false s.out[n]! = ts.length + 1 := by unfold potR;rw [if_neg (by simp)]
      omega
    refine sumF_lt _ (fun i hi => ?_) ⟨n,hn,?_⟩
    ·by_cases e : i = n
     ·subst e;rw [hon,hsn]; omega
     ·rw [(hot i e).1,(hot i e).2]; exact Nat.le_refl _
    ·rw [hon,hsn]; exact hlt
   rw [List.length_append,List.length_singleton]; omega
  ·dsimp only
   by_cases e : k = n
   ·subst e;rw [hsn,hon]; exact ⟨rfl,hmono h⟩
   ·rw [(hot k e).1,(hot k e).2]; exact ⟨h,fun _ _ h => h⟩
  ·dsimp only
   rw [hon,hj v hv]
   split
   ·rw [hm,Bool.or_true]
   ·exact hm
def FCl (ts : List Int) (pts : List Pnt) (all : Bool) (s : Fw) (i : Nat) : Prop := ∀ k,edge pts i k → s.seen[k]! = true ∧ ∀ v,v < ts.length → mvd all (aftB ts pts[i]! s.out[i]!) v = true → mvd all s.out[k]! v = true
def FC (ts : List Int) (pts : List Pnt) (all : Bool) (e : Nat → Prop) (s : Fw) : Prop := ∀ i,i < pts.length → s.seen[i]! = true → (i : Int) ∉ s.work → ¬ e i → FCl ts pts all s i
theorem FPush.fc {ts:List Int}{pts:List Pnt}(w:WG ts pts){all:Bool}{aft:List Bool}{n:Nat}{s s':Fw}{e:Nat → Prop}(p:FPush ts pts all aft n s s') (h:FC ts pts all e s):FC ts pts all e s':=by
 intro i hi hs hw he k hk
 have hkl := edge_lt w hk
 rcases p.or with q|q
 ·have hin : i ≠ n := fun e => by subst e; exact hw q
  rw [(p.ot i hin).2] at hs
  obtain ⟨h1,h2⟩ := h i hi hs (fun hx => hw (p.wk _ hx)) he k hk
  obtain ⟨m1,m2⟩ := p.mono k hkl h1
  refine ⟨m1,fun v hv hm => m2 v hv (h2 v hv ?_)⟩
  rw [(p.ot i hin).1] at hm;exact hm
 ·subst q;exact h i hi hs hw he k hk
structure FIn (ts : List Int) (pts : List Pnt) (all : Bool) (at_ : Nat) (aft : List Bool) (m j : Nat) (s : Fw) : Prop where
 I : FI ts pts all s
 C : FC ts pts all (· = at_) s
 mu : fwMu all ts.length pts.length s ≤ m
 D : (at_ : Int) ∈ s.work ∨ (aft = aftB ts pts[at_]! s.out[at_]! ∧ ∀ j',j' < j → j' < pts[at_]!.next.length → s.seen[(pts[at_]!.next[j']!).toNat]! = true ∧ ∀ v,v < ts.length → mvd all aft v = true → mvd all s.out[(pts[at_]!.next[j']!).toNat]! v = true)
theorem FIn.step {ts:List Int}{pts:List Pnt}(w:WG ts pts){all:Bool}{at_:Nat}{aft:List Bool}{m j:Nat}{s:Fw}(hat:at_ < pts.length) (h:FIn ts pts all at_ aft m j s) (hj:j < pts[at_]!.next.length) (ha:aft.length = ts.length)
  (hT : ∀ k,edge pts at_ k → ∀ v,v < ts.length → mvd all aft v = true → fwT ts pts all (k,v)) : FIn ts pts all at_ aft m (j + 1) (fwP all aft s (pts[at_]!.next[j]!).toNat) := by
 have hnx := w.nx at_ hat _ (getB_mem _ _ hj)
 have hed : edge pts at_ (pts[at_]!.next[j]!).toNat := ⟨hat,by rw [Int.toNat_of_nonneg hnx.1]; exact getB_mem _ _ hj⟩
 have p := fwP_ok (n := (pts[at_]!.next[j]!).toNat) h.I (by omega) ha (hT _ hed)
 refine ⟨p.I,p.fc w h.C,Nat.le_trans p.mu h.mu,?_⟩
 rcases h.D with d | ⟨d1,d2⟩
 ·exact .inl (p.wk _ d)
 ·by_cases e : (at_ : Int) ∈ (fwP all aft s (pts[at_]!.next[j]!).toNat).work
  ·exact .inl e
  ·refine .inr ⟨?_, fun j' h1 h2 => ?_⟩
   ·rcases p.or with q | q
    ·have : at_ ≠ (pts[at_]!.next[j]!).toNat := fun e2 => e (by
      have e4 : (at_ : Int) = ((pts[at_]!.next[j]!).toNat : Nat) := congrArg Int.ofNat e2
      rw [e4]; exact q)
     rw [(p.ot at_ this).1]; exact d1
    ·rw [q]; exact d1
   ·by_cases e3 : j' = j
    ·subst e3;exact ⟨p.sn,p.mv⟩
    ·obtain ⟨g1, g2⟩ := d2 j' (by omega) h2
     have hnx' := w.nx at_ hat _ (getB_mem _ _ h2)
     obtain ⟨m1,m2⟩ := p.mono _ (by omega) g1
     exact ⟨m1,fun v hv hm => m2 v hv (g2 v hv hm)⟩
theorem FIn.out {ts:List Int}{pts:List Pnt}{all:Bool}{at_:Nat}{aft:List Bool}{m j:Nat}{s:Fw}(h:FIn ts pts all at_ aft m j s) (hj:pts[at_]!.next.length ≤ j):FC ts pts all (fun _ => False) s:=by
 intro i hi hs hw _
 by_cases e : i = at_
 ·subst e
  rcases h.D with d | ⟨d1,d2⟩
  ·exact absurd d hw
  ·intro k hk
   obtain ⟨j',q1,q2⟩ := List.getElem_of_mem hk.2
   have := d2 j' (by omega) q1
   rw [getB _ _ q1,q2,d1] at this
   exact this
 ·exact h.C i hi hs hw e
theorem FC.final {ts:List Int}{pts:List Pnt}(w:WG ts pts) (hr:Rch pts){all:Bool}{s:Fw}(I:FI ts pts all s) (h:FC ts pts all (fun _ => False) s) (hw:s.work = []) :
  (∀ i,i < pts.length → s.seen[i]! = true) ∧ ∀ i,i < pts.length → ∀ v,v < ts.length → (mvd all s.out[i]! v = true ↔ fwT ts pts all (i,v)) := by
 have hs : ∀ i, i < pts.length → s.seen[i]! = true := by
  intro i
  induction i using Nat.strongRecOn with
  | ind i ih =>
   intro hi
   by_cases e : i = 0
   ·subst e;exact I.z
   ·obtain ⟨j, hj, he⟩ := hr i (by omega) hi
    exact (h j he.1 (ih j hj he.1) (by rw [hw]; simp) (fun h => h) i he).1
 have hc : ∀ i,i < pts.length → FCl ts pts all s i := fun i hi => h i hi (hs i hi) (by rw [hw]; simp) (fun h => h)
 refine ⟨hs,fun i hi v hv => ⟨fun hm => I.t i hi (hs i hi) v hv hm,fun hT => ?_⟩⟩
 have key : ∀ a : Nat × Nat, fwT ts pts all a → a.2 < ts.length ∧ (a.1 < pts.length → mvd all s.out[a.1]! a.2 = true) := by
  intro a ha
  unfold fwT at ha
  cases all with
  | false =>
   simp only [Bool.false_eq_true,if_false] at ha
   refine Clo.sub (T := fun a => a.2 < ts.length ∧ (a.1 < pts.length → mvd false s.out[a.1]! a.2 = true)) ?_ ?_ a ha
   ·rintro a ⟨i, e, h1⟩
    have hb := (w.set i e.1).1
    refine ⟨by omega,fun hl => (hc i e.1 a.1 e).2 a.2 (by omega) ?_⟩
    have hl := I.a i e.1 (hs i e.1)
    unfold mvd
    rw [aftB_get _ _ _ _ (by omega),decide_eq_true h1]; rfl
   ·rintro a b ⟨h1, h2⟩ ⟨r1, r2, r3⟩
    refine ⟨by omega,fun hl => (hc a.1 r2.1 b.1 r2).2 b.2 (by omega) ?_⟩
    have hl := I.a a.1 r2.1 (hs a.1 r2.1)
    have h3 := h2 r2.1
    unfold mvd at h3 ⊢
    rw [aftB_get _ _ _ _ (by omega),r1,decide_eq_false r3]
    simp only [Bool.bne_false] at h3 ⊢
    rw [h3]; simp
  | true =>
   simp only [if_true] at ha
   refine Clo.sub (T := fun a => a.2 < ts.length ∧ (a.1 < pts.length → mvd true s.out[a.1]! a.2 = true)) ?_ ?_ a ha
   ·rintro a ⟨h0, h1 | ⟨i, e, h1, h2⟩⟩
    ·refine ⟨h0, fun hl => ?_⟩
     rw [h1]; exact I.z1 rfl _ h0
    ·refine ⟨h0, fun hl => (hc i e.1 a.1 e).2 a.2 h0 ?_⟩
     have hl := I.a i e.1 (hs i e.1)
     unfold mvd
     rw [aftB_get _ _ _ _ (by omega),decide_eq_true h1,decide_eq_false h2]; simp
   ·rintro a b ⟨h1, h2⟩ ⟨r1, r2, r3⟩
    refine ⟨by omega,fun hl => (hc a.1 r2.1 b.1 r2).2 b.2 (by omega) ?_⟩
    have hl := I.a a.1 r2.1 (hs a.1 r2.1)
    have h3 := h2 r2.1
    unfold mvd at h3 ⊢
    rw [aftB_get _ _ _ _ (by omega),r1,decide_eq_false r3]
    simp only [Bool.bne_true,Bool.not_eq_true'] at h3 ⊢
    rw [h3]; simp
 exact (key _ hT).2 hi
theorem fwMu_wk (all:Bool) (nv N:Nat) (s:Fw):s.work.length ≤ fwMu all nv N s := by unfold fwMu;omega
theorem sumF_c (c:Nat):∀ n,sumF (fun _ => c) n = n * c
 | 0 => by simp [sumF]
 | n + 1 => by show sumF _ n + c = _; rw [sumF_c c n,Nat.add_mul]; omega
theorem fwMu_bd (all:Bool) (nv N:Nat) (s:Fw) (h1:nv ≤ 6) (h2:N ≤ 61):fwMu all nv N s ≤ 2000 + s.work.length:=by
 unfold fwMu
 have := sumF_le (f := fun i => potR all nv s.seen[i]! s.out[i]!) (g := fun _ => 7) N (fun i _ => by
  have := potR_le all nv s.out[i]!
  cases hq : s.seen[i]! with
  | true => omega
  | false => unfold potR;rw [if_neg (by simp)]; omega)
 rw [sumF_c] at this
 omega
theorem fw_pop {ts:List Int}{pts:List Pnt}{all:Bool}{out:List (List Bool)}{seen:List Bool}{a:Int}{q:List Int}(I:FI ts pts all ⟨out,seen,a :: q⟩) (h:FC ts pts all (fun _ => False) ⟨out,seen,a :: q⟩) :
  FIn ts pts all a.toNat (aftB ts pts[a.toNat]! out[a.toNat]!) (fwMu all ts.length pts.length ⟨out,seen,a :: q⟩ - 1) 0 ⟨out,seen,q⟩ := by
 have ha := (I.w a List.mem_cons_self).1
 refine ⟨⟨I.lo,I.ls,I.a,I.b,I.z,I.z1,I.t,fun k hk => I.w k (List.mem_cons_of_mem _ hk)⟩,fun i hi hs hw he => ?_,?_,.inr ⟨rfl,fun j' h => by omega⟩⟩
 ·refine h i hi hs (fun hx => ?_) (fun h => h)
  rcases List.mem_cons.1 hx with e|e
  ·exact he (by show i = a.toNat;omega)
  ·exact hw e
 ·unfold fwMu;simp only [List.length_cons]; omega
theorem fw_hT {ts:List Int}{pts:List Pnt}{all:Bool}{s:Fw}{i:Nat}(I:FI ts pts all s) (hs:s.seen[i]! = true):∀ k,edge pts i k → ∀ v,v < ts.length → mvd all (aftB ts pts[i]! s.out[i]!) v = true → fwT ts pts all (k,v) :=
 fun k e v hv h => aft_T e hv (I.a i e.1 hs) (fun hm => I.t i e.1 hs v hv hm) h
theorem fw_init {ts:List Int}{pts:List Pnt}(w:WG ts pts) (all:Bool) :
  FI ts pts all ⟨(List.replicate pts.length []).set 0 (List.replicate ts.length false),(List.replicate pts.length false).set 0 true,[0]⟩ ∧
  FC ts pts all (fun _ => False) ⟨(List.replicate pts.length []).set 0 (List.replicate ts.length false),(List.replicate pts.length false).set 0 true,[0]⟩ := by
 have hp := w.p0
 have h0 : ∀ i, i < pts.length → ((List.replicate pts.length false).set 0 true)[i]! = true → i = 0 := by
  intro i hi h
  rw [set_get] at h
  apply Classical.byContradiction
  intro hc
  rw [if_neg (by omega),rep_get _ _ _ hi] at h
  cases h
 have o0 : ((List.replicate pts.length ([] : List Bool)).set 0 (List.replicate ts.length false))[0]! = List.replicate ts.length false := by rw [set_get,if_pos (by simp;omega)]
 have s0 : ((List.replicate pts.length false).set 0 true)[0]! = true := by rw [set_get,if_pos (by simp;omega)]
 refine ⟨⟨by simp,by simp,fun i hi h => ?_,fun i hi h => ?_,s0,fun h v hv => ?_,fun i hi h v hv hm => ?_,fun k hk => ?_⟩,fun i hi hs hw _ => ?_⟩
 ·have := h0 i hi h; subst this
  dsimp only;rw [o0]; simp
 ·dsimp only at h ⊢
  have : i ≠ 0 := fun e => by subst e;rw [s0] at h;cases h
  rw [set_get,if_neg (by omega),rep_get _ _ _ hi]
 ·dsimp only;rw [o0]; unfold mvd;rw [rep_get _ _ _ hv,h]; rfl
 ·have := h0 i hi h; subst this
  dsimp only at hm
  rw [o0] at hm;unfold mvd at hm;rw [rep_get _ _ _ hv] at hm
  unfold fwT
  cases all with
  | true => exact .base ⟨hv,.inl rfl⟩
  | false => cases hm
 ·dsimp only at hk ⊢
  rw [List.mem_singleton] at hk;subst hk
  exact ⟨by omega,by omega,s0⟩
 ·have := h0 i hi hs; subst this
  exact absurd (List.mem_singleton.2 rfl) hw
def rowsB (nv N : Nat) (A : List Nat) : List (List Bool) := (List.range N).map fun (i : Nat) => (List.range nv).map fun (v : Nat) => A[i]!.testBit v
theorem rowsB_len (nv N:Nat) (A:List Nat):(rowsB nv N A).length = N := by simp [rowsB]
theorem rowsB_row (nv N:Nat) (A:List Nat) (i:Nat) (h:i < N):(rowsB nv N A)[i]! = (List.range nv).map fun (v:Nat) => A[i]!.testBit v := mapR_get _ _ _ h
theorem rowsB_get (nv N:Nat) (A:List Nat) (i v:Nat) (h:i < N) (hv:v < nv):(rowsB nv N A)[i]![v]! = A[i]!.testBit v := by rw [rowsB_row _ _ _ _ h,mapR_get _ _ _ hv]
def GoodF2 (ts : List Int) (pts : List Pnt) (all : Bool) (A : List Nat) : Prop := if all = true then GoodA ts pts A else GoodM ts pts A
theorem fw_final {ts:List Int}{pts:List Pnt}(w:WG ts pts) (hr:Rch pts){all:Bool}{s:Fw}{A:List Nat}(hA:GoodF2 ts pts all A) (I:FI ts pts all s) (h:FC ts pts all (fun _ => False) s) (hw:s.work = []) :
  s.out = rowsB ts.length pts.length A := by
 obtain ⟨h1,h2⟩ := FC.final w hr I h hw
 refine ext_get (by rw [rowsB_len,I.lo]) fun i hi => ?_
 rw [I.lo] at hi
 have hl := I.a i hi (h1 i hi)
 refine ext_get (by rw [hl,rowsB_row _ _ _ _ hi]; simp) fun v hv => ?_
 rw [hl] at hv
 rw [rowsB_get _ _ _ _ _ hi hv]
 have h3 := h2 i hi v hv
 unfold GoodF2 at hA
 unfold mvd fwT at h3
 cases all with
 | true =>
  simp only [if_true,Bool.bne_true,Bool.not_eq_true'] at hA h3
  have h4 := hA.2 i hi v
  by_cases hq : Na ts pts (i,v)
  ·rw [h3.2 hq]
   symm;rw [Bool.eq_false_iff]; intro hb;exact (h4.1 hb).2 hq
  ·rw [h4.2 ⟨hv, hq⟩]
   cases hx : s.out[i]![v]! with
   | true => rfl
   | false => exact absurd (h3.1 hx) hq
 | false =>
  simp only [Bool.false_eq_true,if_false,Bool.bne_false] at hA h3
  have h4 := hA.2 i hi v
  rw [Bool.eq_iff_iff,h3,h4]
theorem Le.mvO {ts:List (Nat × AV)}{hs:List (Nat × Option (List AV))}{n:Nat}{z0:Lo}{d i o m e:Nat}{cs:List AV}(hd:lk ts d = some (.own i o m e)) (hi:lkH hs i = some cs) (ho:o ≤ cs.length) (hn:n < big) :
  Le ⟨ts,hs,n,z0⟩ ⟨(d,.own n 0 m e) :: ts,(n,some (cs.drop o)) :: (i,none) :: hs,n + 1,z0⟩ := by
 rintro C a w ⟨h0,ι,g,gh⟩
 have hf : ι n = none := gh.fresh n ⟨Nat.le_refl _,.inl hn⟩
 have hin : ∃ p, ι i = some p := by
  rcases gh.obj i cs hi with ⟨r1,_⟩ | ⟨b,β,_,_,r1,_⟩
  ·exact ⟨_,r1⟩
  ·exact ⟨_,r1⟩
 obtain ⟨pi,hpi⟩ := hin
 have hni : n ≠ i := by rintro rfl;rw [hf] at hpi;cases hpi
 let ι' : Pl := upd ι n (some (pi.map fun x => (x.1,x.2 + o)))
 have hnn : ι' n = some (pi.map fun x => (x.1,x.2 + o)) := by simp only [ι',upd_same]
 have hne' : ∀ id,id ≠ n → ι' id = ι id := fun id h => by simp only [ι',upd_ne _ _ h]
 have hne : ∀ id p, ι id = some p → ι' id = some p := by
  intro id p h
  have : id ≠ n := by rintro rfl;rw [hf] at h;cases h
  rw [hne' _ this,h]
 -- the objects of the new state: the new one, or an old one
 have hσ : ∀ id c, lkH ((n, some (cs.drop o)) :: (i, none) :: hs) id = some c → (id = n ∧ c = cs.drop o) ∨ (id ≠ n ∧ id ≠ i ∧ lkH hs id = some c ∧ ι' id = ι id) := by
  intro id c h
  simp only [lkH_c] at h
  by_cases q : id = n
  ·subst q
   rw [if_pos rfl] at h;cases h
   exact .inl ⟨rfl,rfl⟩
  ·rw [if_neg q] at h
   by_cases q2 : id = i
   ·rw [if_pos q2] at h;cases h
   ·rw [if_neg q2] at h
    exact .inr ⟨q,q2,h,hne' _ q⟩
 have hnb : ∀ b β, ι' n = some (some (b, β)) → ∃ β0, ι i = some (some (b, β0)) ∧ β = β0 + o := by
  intro b β h
  rw [hnn] at h
  cases pi with
  | none => cases h
  | some x => obtain ⟨x1,x2⟩ := x;cases h;exact ⟨x2,hpi,rfl⟩
 have car : Carry w (badOf C.X ι (lkH hs)) ι w (badOf C.X ι' (lkH ((n, some (cs.drop o)) :: (i, none) :: hs))) ι' := by
  refine ⟨fun b o' x h1 h2 => ⟨?_,h2⟩,hne,fun _ => Nat.le_refl _⟩
  rintro (h | ⟨id,c,β,q1,q2⟩)
  ·exact h1 (.inl h)
  ·rcases hσ id c q1 with ⟨rfl, _⟩ | ⟨_, _, r1, r2⟩
   ·obtain ⟨β0, r, _⟩ := hnb b β q2
    exact h1 (.inr ⟨i,cs,β0,hi,r⟩)
   ·exact h1 (.inr ⟨id,c,β,r1,by rw [← r2]; exact q2⟩)
 refine ⟨h0,ι',⟨g.df,g.sz,fun t av ht => ?_⟩,⟨fun id c h => ?_,fun id id' c c' b β β' q1 q2 q3 q4 => ?_,gh.fr,fun id p h => hne _ _ (gh.ex _ _ h),fun id h => ?_⟩⟩
 ·have ht' : lk ((d, .own n 0 m e) :: ts) t = some av := ht
  rw [lk_c] at ht'
  split at ht'
  ·rename_i et
   subst et
   cases ht'
   obtain ⟨y,hy,hr⟩ := g.tm t _ hd
   refine ⟨y,hy,?_⟩
   simp only [Rd] at hr ⊢
   rcases hr with ⟨_,h2,a',h3⟩ | ⟨b,β,c,h1,h2,h3,h4⟩
   ·exact .inl ⟨⟨_,hnn⟩,h2,a',h3⟩
   ·refine .inr ⟨b, β + o, c, ?_, by rw [h2]; simp, h3, by simpa using h4⟩
    rw [hnn]
    rw [hpi] at h1;cases h1;rfl
  ·obtain ⟨y, hy, hr⟩ := g.tm t av ht'
   exact ⟨y,hy,Rd.carry car _ _ hr⟩
 ·rcases hσ id c h with ⟨rfl, rfl⟩ | ⟨_, _, r1, r2⟩
  ·rcases gh.obj _ cs hi with ⟨s1, s2⟩ | ⟨b, β, arr, e', s1, s2, s3, s4, s5, s6⟩
   ·refine .inl ⟨?_, by rw [s2]; simp⟩
    rw [hnn]; rw [hpi] at s1;cases s1;rfl
   ·refine .inr ⟨b, β + o, arr, e', ?_, s2, by rw [List.length_drop]; omega, RdC.carryB car _ _ _ (fun o x hx => hx) (RdC.drop o ho s4), s5, s6⟩
    rw [hnn]; rw [hpi] at s1;cases s1;rfl
  ·rcases gh.obj _ c r1 with ⟨s1, s2⟩ | ⟨b, β, arr, e', s1, s2, s3, s4, s5, s6⟩
   ·exact .inl ⟨by rw [r2]; exact s1,s2⟩
   ·exact .inr ⟨b,β,arr,e',by rw [r2]; exact s1,s2,s3,RdC.carryB car _ _ _ (fun o x hx => hx) s4,s5,s6⟩
 ·rcases hσ id c q1 with ⟨rfl, _⟩ | ⟨u1, u2, r1, r2⟩
  ·rcases hσ id' c' q2 with ⟨rfl, _⟩ | ⟨v1, v2, t1, t2⟩
   ·rfl
   ·obtain ⟨β0, x1, _⟩ := hnb b β q3
    exact absurd (gh.sep _ _ _ _ _ _ _ hi t1 x1 (by rw [← t2]; exact q4)).symm v2
  ·rcases hσ id' c' q2 with ⟨rfl, _⟩ | ⟨v1, v2, t1, t2⟩
   ·obtain ⟨β0, x1, _⟩ := hnb b β' q4
    exact absurd (gh.sep _ _ _ _ _ _ _ r1 hi (by rw [← r2]; exact q3) x1) u2
   ·exact gh.sep _ _ _ _ _ _ _ r1 t1 (by rw [← r2]; exact q3) (by rw [← t2]; exact q4)
 ·have h1 : n + 1 ≤ id := h.1
  have h2 : id < big ∨ z0.fb ≤ id := h.2
  rw [hne' id (by omega)]
  exact gh.fresh id ⟨by show n ≤ id;omega,h2⟩
section
variable {P : Program} {N : Nat} {Q : Exit → AS → Prop} {all : Array Oper} {rest : List Oper} {ts : List (Nat × AV)} {hs : List (Nat × Option (List AV))} {n : Nat} {z0 : Lo} {md : Md}
variable {d : Nat} {ty : TypeId} {pos : String} {af : Array Edge}
def Stop (p : Prop) : Prop := p
theorem rw_stop {op:Op}{g:Option (Nat × Bool)}(h:Stop (RW P N all Q md (⟨some d,op,ty,pos,af,g⟩ :: rest) ⟨ts,hs,n,z0⟩)):RW P N all Q md (⟨some d,op,ty,pos,af,g⟩ :: rest) ⟨ts,hs,n,z0⟩ := h
theorem rw_go {l:List Oper}{s:AS}(h:RW P N all Q md l s):Stop (RW P N all Q md l s) := h
theorem rx_sliceOw {t el:TypeId}{x:Operand}{lo:Option Operand}{i o m e l:Nat}[ht:SlT P t el] [he:SzT P el e] (hx:ev (lk ts) x = some (.own i o m e))
  (hl : bndA (lk ts) lo 0 = some l) (hb : l ≤ m) (hN : Nat.blt d N = true) {md' : Md} [hmd : MdA md (rO x ++ (rB lo ++ rB none)) [.inl d] md'] (kk : RW P N all Q md' rest ⟨(d,.own i (o + l * e) (m - l) e) :: ts,hs,n,z0⟩) :
  RW P N all Q md (⟨some d,.slice t x lo none none,ty,pos,af,none⟩ :: rest) ⟨ts,hs,n,z0⟩ :=
 rx_slice (m := m) (h := m) hx rfl hl rfl (by simp [sSl,hb]) hN (md' := md') (hmd := hmd) kk
theorem rx_makeSliceI {t el e by' m:Nat}{x y:Operand}{zs:List Value}{cs:List AV}{k k':IntKind}[ht:SlT P t el] [he:SzT P el e] [hb:ByT P el by'] [hz:ZrT P el zs]
  (hx : ev (lk ts) x = some (.v (.int k (m : Int)))) (hy : ev (lk ts) y = some (.v (.int k' (m : Int)))) (hze : zs.length = e) (hsm : by' * m ≤ 281474976710656) (hmx : m ≤ 9223372036854775807)
  (hcs : (List.replicate m (zs.map .v)).flatten = cs) (hM : Nat.blt n big = true) (hN : Nat.blt d N = true) (kk : RW P N all Q .txt rest ⟨(d,.imm m cs) :: ts,(n,none) :: hs,n + 1,z0⟩) :
  RW P N all Q .txt (⟨some d,.makeSlice t x y,ty,pos,af,none⟩ :: rest) ⟨ts,hs,n,z0⟩ :=
 rx_makeSliceE hx hy hze hsm hmx hcs hM hN (md' := .txt) (rw_le kk Le.frzTop)
theorem rx_mkB {t el by' m:Nat}{x y:Operand}{k k':IntKind}[ht:SlT P t el] [he:SzT P el 1] [hb:ByT P el by'] [hz:ZrT P el [.bool false]]
  (hx : ev (lk ts) x = some (.v (.int k (m : Int)))) (hy : ev (lk ts) y = some (.v (.int k' (m : Int)))) (hsm : by' * m ≤ 281474976710656) (hmx : m ≤ 9223372036854775807)
  (hM : Nat.blt n big = true) (hN : Nat.blt d N = true) (kk : RW P N all Q .txt rest ⟨(d,sl cB (List.replicate m false)) :: ts,(n,none) :: hs,n + 1,z0⟩) :
  RW P N all Q .txt (⟨some d,.makeSlice t x y,ty,pos,af,none⟩ :: rest) ⟨ts,hs,n,z0⟩ := by
 refine rx_makeSliceI hx hy rfl hsm hmx mk_bool hM hN ?_
 have e : sl cB (List.replicate m false) = .imm m (flat cB (List.replicate m false)) := by unfold sl;rw [List.length_replicate]
 rw [← e]; exact kk
end
theorem st_rows {xs:List (List Bool)}{k:Nat}{r:List Bool}(hk:k < xs.length):spl (flat cBB xs) (0 + k * 1) [sl cB r] = flat cBB (xs.set k r) := st_flat0 hk rfl
def cfg (pts : List Pnt) (pl lv : List Bool) (l : Nat) (c : Acc) : Bool := lv[l]! && pl[l]! && decide (pts[l]!.y = c.var) && (c.write || decide (pts[l]!.op = 5))
def cfB (pts : List Pnt) (acs : List Acc) (pl lv : List Bool) : List Bool := (List.range pts.length).map fun (l : Nat) => acs.any (cfg pts pl lv l)
theorem cfB_len (pts:List Pnt) (acs:List Acc) (pl lv:List Bool):(cfB pts acs pl lv).length = pts.length := by simp [cfB]
theorem cfB_get (pts:List Pnt) (acs:List Acc) (pl lv:List Bool) (l:Nat) (h:l < pts.length):(cfB pts acs pl lv)[l]! = acs.any (cfg pts pl lv l) := mapR_get _ _ _ h
theorem any_take {α:Type}[Inhabited α] (f:α → Bool) (xs:List α) (k:Nat) (h:k < xs.length):(xs.take (k + 1)).any f = ((xs.take k).any f || f xs[k]!):=by
 rw [take_succB _ _ h,List.any_append]; simp
def addB (a b : List Bool) : List Bool := (List.range a.length).map fun (l : Nat) => a[l]! || (decide (l < b.length) && b[l]!)
theorem addB_len (a b:List Bool):(addB a b).length = a.length := by simp [addB]
theorem addB_get (a b:List Bool) (l:Nat) (h:l < a.length):(addB a b)[l]! = (a[l]! || (decide (l < b.length) && b[l]!)) := mapR_get _ _ _ h
def cntF (nv : Nat) (b : List Bool) : Nat := sumF (fun v => if b[v]! = true then 0 else 1) nv
def fcR (nv N : Nat) (R : List (List Bool)) : Nat := sumF (fun i => cntF nv R[i]!) N
theorem cntF_mono {nv:Nat}{a b:List Bool}(h:∀ v,v < nv → a[v]! = true → b[v]! = true):cntF nv b ≤ cntF nv a :=
 sumF_le nv fun v hv => by
  show (if b[v]! = true then 0 else 1) ≤ (if a[v]! = true then 0 else 1)
  by_cases ha : a[v]! = true
  ·rw [if_pos (h v hv ha)]; omega
  ·rw [if_neg ha]; split <;> omega
theorem cntF_lt {nv:Nat}{a b:List Bool}(h:∀ v,v < nv → a[v]! = true → b[v]! = true){v:Nat}(hv:v < nv) (ha:a[v]! = false) (hb:b[v]! = true):cntF nv b < cntF nv a :=
 sumF_lt nv (fun v hv => by
  show (if b[v]! = true then 0 else 1) ≤ (if a[v]! = true then 0 else 1)
  by_cases ha : a[v]! = true
  ·rw [if_pos (h v hv ha)]; omega
  ·rw [if_neg ha]; split <;> omega) ⟨v,hv,by show (if b[v]! = true then 0 else 1) < (if a[v]! = true then 0 else 1);rw [if_pos hb,if_neg (by rw [ha]; decide)]; omega⟩
theorem fcR_lt {nv N:Nat}{R R':List (List Bool)}(h:∀ i,i < N → cntF nv R'[i]! ≤ cntF nv R[i]!){i:Nat}(hi:i < N) (hlt:cntF nv R'[i]! < cntF nv R[i]!):fcR nv N R' < fcR nv N R :=
 sumF_lt N h ⟨i,hi,hlt⟩
theorem fcR_set {nv N i v:Nat}{R:List (List Bool)}(hl:R.length = N) (hi:i < N) (hv:v < nv) (hr:R[i]!.length = nv) (hf:R[i]![v]! = false):fcR nv N (R.set i (R[i]!.set v true)) < fcR nv N R:=by
 have hq : ∀ u,u < nv → R[i]![u]! = true → (R[i]!.set v true)[u]! = true := fun u hu h => by rw [set_get]; split <;> first|rfl|exact h
 refine fcR_lt (fun j hj => ?_) hi ?_
 ·rw [set_get]
  split
  ·rename_i e;obtain ⟨rfl,_⟩ := e;exact cntF_mono hq
  ·exact Nat.le_refl _
 ·rw [set_get, if_pos ⟨rfl, by omega⟩]
  exact cntF_lt hq hv hf (by rw [set_get,if_pos ⟨rfl,by omega⟩])
theorem mem_idx {pts:List Pnt}{i n:Nat}(e:edge pts i n):∃ k,k < pts[i]!.next.length ∧ (pts[i]!.next[k]!).toNat = n:=by
 obtain ⟨k,hk,h⟩ := List.getElem_of_mem e.2
 exact ⟨k,hk,by rw [getB _ _ hk,h]; simp⟩
theorem idx_edge {ts:List Int}{pts:List Pnt}(w:WG ts pts){i k:Nat}(hi:i < pts.length) (hk:k < pts[i]!.next.length):edge pts i (pts[i]!.next[k]!).toNat:=by
 have hm := getB_mem _ _ hk
 have := w.nx i hi _ hm
 exact ⟨hi,by rw [Int.toNat_of_nonneg this.1]; exact hm⟩
def needL (ts : List Int) (pts : List Pnt) (R : List (List Bool)) (n v : Nat) : Bool := !decide (useAt ts pts[n]! v = 0) || (R[n]![v]! && !decide (setAt pts[n]! = v))
structure LS (ts : List Int) (pts : List Pnt) (R0 R : List (List Bool)) (c : Bool) (D : Nat → Nat → Nat → Prop) : Prop where
 lo : R.length = pts.length
 ro : ∀ i,i < pts.length → R[i]!.length = ts.length
 snd : ∀ i v,i < pts.length → v < ts.length → R[i]![v]! = true → Lv ts pts i v
 dec : c = true → fcR ts.length pts.length R < fcR ts.length pts.length R0
 same : c = false → R = R0 ∧ ∀ i k v,i < pts.length → k < pts[i]!.next.length → v < ts.length → D i k v → needL ts pts R (pts[i]!.next[k]!).toNat v = true → R[i]![v]! = true
theorem LS.mono {ts:List Int}{pts:List Pnt}{R0 R:List (List Bool)}{c:Bool}{D D':Nat → Nat → Nat → Prop}(h:LS ts pts R0 R c D)
  (k : ∀ i k v,i < pts.length → k < pts[i]!.next.length → v < ts.length → D' i k v → D i k v) : LS ts pts R0 R c D' :=
 ⟨h.lo,h.ro,h.snd,h.dec,fun hc => ⟨(h.same hc).1,fun i q v hi hq hv hd => (h.same hc).2 i q v hi hq hv (k i q v hi hq hv hd)⟩⟩
theorem LS.skip {ts:List Int}{pts:List Pnt}{R0 R:List (List Bool)}{c:Bool}{D D':Nat → Nat → Nat → Prop}(h:LS ts pts R0 R c D){i k v:Nat}(hs:needL ts pts R (pts[i]!.next[k]!).toNat v = true → R[i]![v]! = true)
  (hD : ∀ i' k' v',i' < pts.length → k' < pts[i']!.next.length → v' < ts.length → D' i' k' v' → D i' k' v' ∨ (i' = i ∧ k' = k ∧ v' = v)) : LS ts pts R0 R c D' :=
 ⟨h.lo, h.ro, h.snd, h.dec, fun hc => ⟨(h.same hc).1, fun i' q v' hi hq hv hd hn => by
  rcases hD i' q v' hi hq hv hd with h1 | ⟨rfl,rfl,rfl⟩
  ·exact (h.same hc).2 i' q v' hi hq hv h1 hn
  ·exact hs hn⟩⟩
theorem need_Lv {ts:List Int}{pts:List Pnt}(w:WG ts pts){R:List (List Bool)}(hs:∀ i v,i < pts.length → v < ts.length → R[i]![v]! = true → Lv ts pts i v){n v:Nat}(hn:n < pts.length) (hv:v < ts.length) (h:needL ts pts R n v = true):Nd ts pts (n,v):=by
 unfold needL at h
 simp only [Bool.or_eq_true,Bool.not_eq_true',decide_eq_false_iff_not,Bool.and_eq_true] at h
 rcases h with h | ⟨h1,h2⟩
 ·exact .base ⟨hn,hv,h⟩
 ·obtain ⟨k, e, hk⟩ := hs n v hn hv h1
  exact .step hk ⟨rfl,e,h2⟩
theorem LS.hit {ts:List Int}{pts:List Pnt}(w:WG ts pts){R0 R:List (List Bool)}{c:Bool}{D:Nat → Nat → Nat → Prop}(D':Nat → Nat → Nat → Prop) (h:LS ts pts R0 R c D){i k v:Nat}(hi:i < pts.length) (hk:k < pts[i]!.next.length) (hv:v < ts.length)
  (hn : needL ts pts R (pts[i]!.next[k]!).toNat v = true) (hf : R[i]![v]! = false) : LS ts pts R0 (R.set i (R[i]!.set v true)) true D' := by
 have hlt := fcR_set h.lo hi hv (h.ro i hi) hf
 have e := idx_edge w hi hk
 have hro := h.ro i hi
 have hlo := h.lo
 refine ⟨by rw [List.length_set]; exact h.lo,fun j hj => ?_,fun j u hj hu hr => ?_,fun _ => ?_,fun hc => by cases hc⟩
 ·rw [set_get]; split
  ·rw [List.length_set]; exact hro
  ·exact h.ro j hj
 ·rw [set_get] at hr
  split at hr
  ·rename_i q
   obtain ⟨rfl,_⟩ := q
   rw [set_get] at hr
   split at hr
   ·rename_i q
    obtain ⟨rfl,_⟩ := q
    exact ⟨_,e,need_Lv w h.snd (edge_lt w e) hv hn⟩
   ·exact h.snd _ u hj hu hr
  ·exact h.snd j u hj hu hr
 ·cases hc : c with
  | true => have := h.dec hc;omega
  | false => rw [← (h.same hc).1]; exact hlt
def DL (z : Int) (kk vv : Nat) (i k v : Nat) : Prop := z < (i : Int) ∨ (z = (i : Int) ∧ (k < kk ∨ (k = kk ∧ v < vv)))
structure LH (ts : List Int) (pts : List Pnt) (R : List (List Bool)) (c : Bool) : Prop where
 lo : R.length = pts.length
 ro : ∀ i,i < pts.length → R[i]!.length = ts.length
 snd : ∀ i v,i < pts.length → v < ts.length → R[i]![v]! = true → Lv ts pts i v
 cl : c = false → ∀ i k v,i < pts.length → k < pts[i]!.next.length → v < ts.length → needL ts pts R (pts[i]!.next[k]!).toNat v = true → R[i]![v]! = true
theorem LH.start {ts:List Int}{pts:List Pnt}{R:List (List Bool)}{c:Bool}(h:LH ts pts R c):LS ts pts R R false (DL ((pts.length:Int) - 1) 0 0) :=
 ⟨h.lo,h.ro,h.snd,fun hc => (by cases hc),fun _ => ⟨rfl,fun i k v hi hk hv hd _ => by unfold DL at hd;omega⟩⟩
theorem LH.init (ts:List Int) (pts:List Pnt):LH ts pts (List.replicate pts.length (List.replicate ts.length false)) true :=
 ⟨by simp,fun i hi => (by rw [rep_get _ _ _ hi]; simp),fun i v hi hv h => (by rw [rep_get _ _ _ hi,rep_get _ _ _ hv] at h;cases h),fun h => (by cases h)⟩
def muL (nv N : Nat) (R : List (List Bool)) (c : Bool) : Nat := 2 * fcR nv N R + (if c = true then 1 else 0)
theorem LS.fin {ts:List Int}{pts:List Pnt}{R0 R:List (List Bool)}{c:Bool}{z:Int}(hz:z < 0) (h:LS ts pts R0 R c (DL z 0 0)):LH ts pts R c ∧ muL ts.length pts.length R c < muL ts.length pts.length R0 true:=by
 refine ⟨⟨h.lo,h.ro,h.snd,fun hc i k v hi hk hv => (h.same hc).2 i k v hi hk hv (.inl (by omega))⟩,?_⟩
 unfold muL
 cases hc : c with
 | true => have := h.dec hc;simp only [if_true]; omega
 | false => rw [(h.same hc).1]; simp
theorem LH.final {ts:List Int}{pts:List Pnt}(w:WG ts pts){R:List (List Bool)}{A:List Nat}(hA:GoodL ts pts A) (h:LH ts pts R false):R = rowsB ts.length pts.length A:=by
 have key : ∀ a : Nat × Nat, Nd ts pts a → (∀ i, edge pts i a.1 → R[i]![a.2]! = true) ∧ a.2 < ts.length := by
  refine Clo.sub (T := fun a : Nat × Nat => (∀ i,edge pts i a.1 → R[i]![a.2]! = true) ∧ a.2 < ts.length) ?_ ?_
  ·rintro ⟨n, v⟩ ⟨h1, h2, h3⟩
   dsimp only at h1 h2 h3 ⊢
   refine ⟨fun i e => ?_,h2⟩
   obtain ⟨k,hk,hkn⟩ := mem_idx e
   refine h.cl rfl i k v e.1 hk h2 ?_
   rw [hkn]; unfold needL;rw [decide_eq_false h3]; rfl
  ·rintro ⟨x, v⟩ ⟨y, v'⟩ ⟨hT, hv⟩ ⟨rfl, e, hs⟩
   dsimp only at hT hv e hs ⊢
   refine ⟨fun i ei => ?_,hv⟩
   obtain ⟨k,hk,hkn⟩ := mem_idx ei
   refine h.cl rfl i k _ ei.1 hk hv ?_
   rw [hkn]; unfold needL;rw [hT y e,decide_eq_false hs]; simp
 refine ext_get (by rw [rowsB_len,h.lo]) fun i hi => ?_
 rw [h.lo] at hi
 have hl := h.ro i hi
 refine ext_get (by rw [hl,rowsB_row _ _ _ _ hi]; simp) fun v hv => ?_
 rw [hl] at hv
 rw [rowsB_get _ _ _ _ _ hi hv,Bool.eq_iff_iff,hA.2 i hi v]
 exact ⟨fun hr => h.snd i v hi hv hr,fun ⟨k,e,hk⟩ => (key (k,v) hk).1 i e⟩
def wiV (fa fb : List (List Bool)) (i v : Nat) : Bool := !fa[v]![i]! || fb[v]![i]!
def wiI (fa fb : List (List Bool)) (pa pb : List Bool) (i : Nat) : Bool := (!pa[i]! || pb[i]!) && (List.range fa.length).all (wiV fa fb i)
def wiB (fa fb : List (List Bool)) (pa pb : List Bool) : Bool := (List.range pa.length).all (wiI fa fb pa pb)
theorem wiB_iff (fa fb:List (List Bool)) (pa pb:List Bool):wiB fa fb pa pb = true ↔ ∀ l,l < pa.length → (pa[l]! = true → pb[l]! = true) ∧ ∀ v,v < fa.length → fa[v]![l]! = true → fb[v]![l]! = true:=by
 unfold wiB wiI wiV
 simp only [List.all_eq_true,List.mem_range,Bool.and_eq_true,Bool.or_eq_true,Bool.not_eq_true']
 constructor
 ·intro h l hl
  obtain ⟨h1,h2⟩ := h l hl
  refine ⟨fun hp => ?_,fun v hv hf => ?_⟩
  ·rcases h1 with h1 | h1
   ·rw [h1] at hp;cases hp
   ·exact h1
  ·rcases h2 v hv with h3 | h3
   ·rw [h3] at hf;cases hf
   ·exact h3
 ·intro h l hl
  obtain ⟨h1,h2⟩ := h l hl
  refine ⟨?_,fun v hv => ?_⟩
  ·cases hp : pa[l]! with
   | false => exact .inl rfl
   | true => exact .inr (h1 hp)
  ·cases hp : fa[v]![l]! with
   | false => exact .inl rfl
   | true => exact .inr (h2 v hv hp)
def valB (ts : List Int) (pts : List Pnt) (i : Nat) (fr : List (List Bool)) : List Bool :=
 (List.range pts.length).map fun (l : Nat) => if pts[i]!.op = 3 then fr[pts[i]!.y.toNat]![l]! else isLn pts[i]! && (decide (l = i) || (isRef ts[pts[i]!.y.toNat]! && fr[pts[i]!.y.toNat]![l]!))
def afR (ts : List Int) (pts : List Pnt) (i : Nat) (fr : List (List Bool)) : List (List Bool) :=
 (List.range ts.length).map fun (v : Nat) => if setAt pts[i]! = (v : Int) then valB ts pts i fr else if useAt ts pts[i]! v = 2 then List.replicate pts.length false else fr[v]!
def loB (pts : List Pnt) (v : Int) (pl : List Bool) : List Bool := (List.range pl.length).map fun (l : Nat) => pl[l]! && !(isLn pts[l]! && decide (pts[l]!.y = v))
def afQ (ts : List Int) (pts : List Pnt) (i : Nat) (pl : List Bool) : List Bool :=
 (List.range pts.length).map fun (l : Nat) => (isLn pts[i]! && decide (l = i)) || (pl[l]! && !(isLn pts[l]! && (decide (useAt ts pts[i]! pts[l]!.y = 2) || decide (setAt pts[i]! = pts[l]!.y))))
theorem valB_len (ts:List Int) (pts:List Pnt) (i:Nat) (fr:List (List Bool)):(valB ts pts i fr).length = pts.length := by simp [valB]
theorem afR_len (ts:List Int) (pts:List Pnt) (i:Nat) (fr:List (List Bool)):(afR ts pts i fr).length = ts.length := by simp [afR]
theorem afQ_len (ts:List Int) (pts:List Pnt) (i:Nat) (pl:List Bool):(afQ ts pts i pl).length = pts.length := by simp [afQ]
theorem loB_len (pts:List Pnt) (v:Int) (pl:List Bool):(loB pts v pl).length = pl.length := by simp [loB]
theorem valB_get (ts:List Int) (pts:List Pnt) (i:Nat) (fr:List (List Bool)) (l:Nat) (h:l < pts.length):(valB ts pts i fr)[l]! = if pts[i]!.op = 3 then fr[pts[i]!.y.toNat]![l]! else isLn pts[i]! && (decide (l = i) || (isRef ts[pts[i]!.y.toNat]! && fr[pts[i]!.y.toNat]![l]!)) := mapR_get _ _ _ h
theorem afR_get (ts:List Int) (pts:List Pnt) (i:Nat) (fr:List (List Bool)) (v:Nat) (h:v < ts.length):(afR ts pts i fr)[v]! = if setAt pts[i]! = (v:Int) then valB ts pts i fr else if useAt ts pts[i]! v = 2 then List.replicate pts.length false else fr[v]! := mapR_get _ _ _ h
theorem afQ_get (ts:List Int) (pts:List Pnt) (i:Nat) (pl:List Bool) (l:Nat) (h:l < pts.length):(afQ ts pts i pl)[l]! = ((isLn pts[i]! && decide (l = i)) || (pl[l]! && !(isLn pts[l]! && (decide (useAt ts pts[i]! pts[l]!.y = 2) || decide (setAt pts[i]! = pts[l]!.y))))) := mapR_get _ _ _ h
theorem loB_get (pts:List Pnt) (v:Int) (pl:List Bool) (l:Nat) (h:l < pl.length):(loB pts v pl)[l]! = (pl[l]! && !(isLn pts[l]! && decide (pts[l]!.y = v))) := mapR_get _ _ _ h
theorem get_lt {b:List Bool}{l:Nat}(h:b[l]! = true):l < b.length:=by
 apply Classical.byContradiction;intro hc
 rw [getElem!_neg b l hc] at h;cases h
def rwF (nv : Nat) (R : List (List Bool)) (n : Nat) : List (List Bool) := (R.drop (n * (nv + 1))).take nv
def rwP (nv : Nat) (R : List (List Bool)) (n : Nat) : List Bool := R[n * (nv + 1) + nv]!
theorem rwF_get {nv N n v:Nat}{R:List (List Bool)}(hl:R.length = N * (nv + 1)) (hn:n < N) (hv:v < nv):(rwF nv R n)[v]! = R[n * (nv + 1) + v]!:=by
 have h1 : (n + 1) * (nv + 1) ≤ N * (nv + 1) := Nat.mul_le_mul_right _ hn
 rw [Nat.add_mul,Nat.one_mul] at h1
 unfold rwF
 rw [getB _ _ (by rw [List.length_take,List.length_drop]; omega),getB _ _ (by omega),List.getElem_take,List.getElem_drop]
theorem rwF_len {nv N n:Nat}{R:List (List Bool)}(hl:R.length = N * (nv + 1)) (hn:n < N):(rwF nv R n).length = nv:=by
 have h1 : (n + 1) * (nv + 1) ≤ N * (nv + 1) := Nat.mul_le_mul_right _ hn
 rw [Nat.add_mul,Nat.one_mul] at h1
 unfold rwF
 rw [List.length_take,List.length_drop]; omega
theorem ix_lt {nv N n v:Nat}(hn:n < N) (hv:v < nv + 1):n * (nv + 1) + v < N * (nv + 1):=by
 have h1 : (n + 1) * (nv + 1) ≤ N * (nv + 1) := Nat.mul_le_mul_right _ hn
 rw [Nat.add_mul,Nat.one_mul] at h1
 omega
structure FSd (ts : List Int) (pts : List Pnt) (R : List (List Bool)) : Prop where
 lo : R.length = pts.length * (ts.length + 1)
 ro : ∀ q,q < R.length → R[q]!.length = pts.length
 f : ∀ n v l,n < pts.length → v < ts.length → R[n * (ts.length + 1) + v]![l]! = true → Fr' ts pts (n,v,l)
 p : ∀ n l,n < pts.length → R[n * (ts.length + 1) + ts.length]![l]! = true → Pl' ts pts (n,l)
theorem FSd.aft {ts:List Int}{pts:List Pnt}(w:WG ts pts){R:List (List Bool)}(h:FSd ts pts R){i n:Nat}(e:edge pts i n) :
  (∀ v l,v < ts.length → (afR ts pts i (rwF ts.length R i))[v]![l]! = true → Fr' ts pts (n,v,l)) ∧ (∀ l,(afQ ts pts i (rwP ts.length R i))[l]! = true → Pl' ts pts (n,l)) := by
 have hi := e.1
 have hfr : ∀ v l, v < ts.length → (rwF ts.length R i)[v]![l]! = true → Fr' ts pts (i, v, l) := fun v l hv hr => by
  rw [rwF_get h.lo hi hv] at hr;exact h.f i v l hi hv hr
 refine ⟨fun v l hv hr => ?_,fun l hr => ?_⟩
 ·rw [afR_get _ _ _ _ _ hv] at hr
  split at hr
  ·rename_i hs
   have hl := get_lt hr
   rw [valB_len] at hl
   rw [valB_get _ _ _ _ _ hl] at hr
   have hy := w.y i hi
   split at hr
   ·rename_i h3
    have hyv : pts[i]!.y.toNat < ts.length := by omega
    exact .step (hfr _ l hyv hr) ⟨rfl,e,.inr ⟨hs,by show ((pts[i]!.y.toNat : Nat) : Int) = pts[i]!.y;omega,.inr h3⟩⟩
   ·simp only [Bool.and_eq_true, Bool.or_eq_true, decide_eq_true_eq] at hr
    obtain ⟨h1,h2⟩ := hr
    have hop := isLn_op h1
    rcases h2 with rfl | ⟨h2,h3⟩
    ·exact .base ⟨e,h1,hs⟩
    ·have hyv : pts[i]!.y.toNat < ts.length := by omega
     exact .step (hfr _ l hyv h3) ⟨rfl,e,.inr ⟨hs,by show ((pts[i]!.y.toNat : Nat) : Int) = pts[i]!.y;omega,.inl ⟨h1,h2⟩⟩⟩
  ·rename_i hs
   split at hr
   ·have hl := get_lt hr
    rw [List.length_replicate] at hl
    rw [rep_get _ _ _ hl] at hr;cases hr
   ·rename_i h2
    exact .step (hfr v l hv hr) ⟨rfl,e,.inl ⟨hs,rfl,h2⟩⟩
 ·have hl := get_lt hr
  rw [afQ_len] at hl
  rw [afQ_get _ _ _ _ _ hl] at hr
  simp only [Bool.and_eq_true,Bool.or_eq_true,decide_eq_true_eq,Bool.not_eq_true',Bool.and_eq_false_iff,Bool.or_eq_false_iff,decide_eq_false_iff_not] at hr
  rcases hr with ⟨h1,rfl⟩ | ⟨h1,h2⟩
  ·exact .base ⟨e,h1⟩
  ·have hP := h.p i l hi h1
   rcases h2 with h2 | ⟨h2,h3⟩
   ·rw [(Pl_ln hP).2] at h2;cases h2
   ·exact .step hP ⟨rfl,e,h2,h3⟩
def jnR (R : List (List Bool)) (b nv : Nat) (fa : List (List Bool)) (pa : List Bool) (v : Nat) : List (List Bool) :=
 (List.range R.length).map fun (q : Nat) => if q = b + nv then addB R[q]! pa else if b ≤ q ∧ q < b + v then addB R[q]! fa[q - b]! else R[q]!
theorem jnR_len (R:List (List Bool)) (b nv:Nat) (fa:List (List Bool)) (pa:List Bool) (v:Nat):(jnR R b nv fa pa v).length = R.length := by simp [jnR]
theorem jnR_get (R:List (List Bool)) (b nv:Nat) (fa:List (List Bool)) (pa:List Bool) (v q:Nat) (h:q < R.length):(jnR R b nv fa pa v)[q]! = if q = b + nv then addB R[q]! pa else if b ≤ q ∧ q < b + v then addB R[q]! fa[q - b]! else R[q]! := mapR_get _ _ _ h
theorem jnR_zero {R:List (List Bool)}{b nv:Nat}{fa:List (List Bool)}{pa:List Bool}(hb:b + nv < R.length):R.set (b + nv) (addB R[b + nv]! pa) = jnR R b nv fa pa 0:=by
 refine ext_get (by rw [jnR_len]; simp) fun q hq => ?_
 rw [List.length_set] at hq
 rw [jnR_get _ _ _ _ _ _ _ hq,set_get]
 by_cases e : q = b + nv
 ·subst e;rw [if_pos ⟨rfl,hq⟩,if_pos rfl]
 ·rw [if_neg (fun h => e h.1.symm),if_neg e,if_neg (by omega)]
theorem jnR_succ {R:List (List Bool)}{b nv v:Nat}{fa:List (List Bool)}{pa:List Bool}(hb:b + nv < R.length) (hv:v < nv):(jnR R b nv fa pa v).set (b + v) (addB (jnR R b nv fa pa v)[b + v]! fa[v]!) = jnR R b nv fa pa (v + 1):=by
 have e0 : (jnR R b nv fa pa v)[b + v]! = R[b + v]! := by rw [jnR_get _ _ _ _ _ _ _ (by omega),if_neg (by omega),if_neg (by omega)]
 rw [e0]
 refine ext_get (by rw [jnR_len]; simp [jnR_len]) fun q hq => ?_
 rw [List.length_set,jnR_len] at hq
 rw [jnR_get _ _ _ _ _ _ _ hq,set_get,jnR_get _ _ _ _ _ _ _ hq,jnR_len]
 by_cases e : q = b + v
 ·subst e
  rw [if_pos ⟨rfl,hq⟩,if_neg (by omega),if_pos (by omega),Nat.add_sub_cancel_left]
 ·rw [if_neg (fun h => e h.1.symm)]
  by_cases e2 : q = b + nv
  ·rw [if_pos e2,if_pos e2]
  ·rw [if_neg e2, if_neg e2]
   by_cases e3 : b ≤ q ∧ q < b + v
   ·rw [if_pos e3,if_pos (by omega)]
   ·rw [if_neg e3,if_neg (by omega)]
def fcS (ts : List Int) (pts : List Pnt) (R : List (List Bool)) : Nat := fcR pts.length (pts.length * (ts.length + 1)) R
structure FS (ts : List Int) (pts : List Pnt) (R0 R : List (List Bool)) (c : Bool) (D : Nat → Nat → Prop) : Prop where
 d : FSd ts pts R
 dec : c = true → fcS ts pts R < fcS ts pts R0
 same : c = false → R = R0 ∧ ∀ i k, i < pts.length → k < pts[i]!.next.length → D i k →
  wiB (afR ts pts i (rwF ts.length R i)) (rwF ts.length R (pts[i]!.next[k]!).toNat) (afQ ts pts i (rwP ts.length R i)) (rwP ts.length R (pts[i]!.next[k]!).toNat) = true
theorem FS.mono {ts:List Int}{pts:List Pnt}{R0 R:List (List Bool)}{c:Bool}{D D':Nat → Nat → Prop}(h:FS ts pts R0 R c D) (k:∀ i k,i < pts.length → k < pts[i]!.next.length → D' i k → D i k):FS ts pts R0 R c D' :=
 ⟨h.d,h.dec,fun hc => ⟨(h.same hc).1,fun i q hi hq hd => (h.same hc).2 i q hi hq (k i q hi hq hd)⟩⟩
theorem FS.skip {ts:List Int}{pts:List Pnt}{R0 R R1:List (List Bool)}{c:Bool}{D D':Nat → Nat → Prop}(h:FS ts pts R0 R c D){i k:Nat}(h1:c = false → R = R1)
  (hw : wiB (afR ts pts i (rwF ts.length R1 i)) (rwF ts.length R (pts[i]!.next[k]!).toNat) (afQ ts pts i (rwP ts.length R1 i)) (rwP ts.length R (pts[i]!.next[k]!).toNat) = true)
  (hD : ∀ i' k',i' < pts.length → k' < pts[i']!.next.length → D' i' k' → D i' k' ∨ (i' = i ∧ k' = k)) : FS ts pts R0 R c D' :=
 ⟨h.d, h.dec, fun hc => ⟨(h.same hc).1, fun i' q hi hq hd => by
  rcases hD i' q hi hq hd with h2 | ⟨rfl,rfl⟩
  ·exact (h.same hc).2 i' q hi hq h2
  ·have := h1 hc;subst this;exact hw⟩⟩
theorem FS.hit {ts:List Int}{pts:List Pnt}(w:WG ts pts){R0 R R1:List (List Bool)}{c:Bool}{D:Nat → Nat → Prop}(D':Nat → Nat → Prop) (h:FS ts pts R0 R c D) (h1:FSd ts pts R1){i k:Nat}(hi:i < pts.length) (hk:k < pts[i]!.next.length)
  (hw : wiB (afR ts pts i (rwF ts.length R1 i)) (rwF ts.length R (pts[i]!.next[k]!).toNat) (afQ ts pts i (rwP ts.length R1 i)) (rwP ts.length R (pts[i]!.next[k]!).toNat) = false) :
  FS ts pts R0 (jnR R ((pts[i]!.next[k]!).toNat * (ts.length + 1)) ts.length (afR ts pts i (rwF ts.length R1 i)) (afQ ts pts i (rwP ts.length R1 i)) ts.length) true D' := by
 have e := idx_edge w hi hk
 have hn := edge_lt w e
 obtain ⟨hf,hp⟩ := h1.aft w e
 generalize hnn : (pts[i]!.next[k]!).toNat = n at *
 have hlo := h.d.lo
 have hix : n * (ts.length + 1) + ts.length < R.length := by rw [hlo]; exact ix_lt hn (by omega)
 have hlen : ∀ q, q < R.length → (jnR R (n * (ts.length + 1)) ts.length (afR ts pts i (rwF ts.length R1 i)) (afQ ts pts i (rwP ts.length R1 i)) ts.length)[q]!.length = pts.length := by
  intro q hq
  rw [jnR_get _ _ _ _ _ _ _ hq]
  split
  ·rw [addB_len]; exact h.d.ro q hq
  ·split
   ·rw [addB_len]; exact h.d.ro q hq
   ·exact h.d.ro q hq
 have hmul : ∀ a b : Nat,a * (ts.length + 1) + ts.length = b * (ts.length + 1) + ts.length → a = b := fun a b q => Nat.eq_of_mul_eq_mul_right (Nat.succ_pos ts.length) (Nat.add_right_cancel q)
 have hmono : ∀ q, q < R.length → ∀ l, l < pts.length → R[q]![l]! = true → (jnR R (n * (ts.length + 1)) ts.length (afR ts pts i (rwF ts.length R1 i)) (afQ ts pts i (rwP ts.length R1 i)) ts.length)[q]![l]! = true := by
  intro q hq l hl hr
  have hro := h.d.ro q hq
  rw [jnR_get _ _ _ _ _ _ _ hq]
  split
  ·rw [addB_get _ _ _ (by omega),hr]; rfl
  ·split
   ·rw [addB_get _ _ _ (by omega),hr]; rfl
   ·exact hr
 refine ⟨⟨by rw [jnR_len]; exact hlo,fun q hq => by rw [jnR_len] at hq;exact hlen q hq,fun m v l hm hv hr => ?_,fun m l hm hr => ?_⟩,fun _ => ?_,fun hc => by cases hc⟩
 ·have hq : m * (ts.length + 1) + v < R.length := by rw [hlo]; exact ix_lt hm (by omega)
  have hl := get_lt hr
  rw [hlen _ hq] at hl
  rw [jnR_get _ _ _ _ _ _ _ hq] at hr
  split at hr
  ·rename_i q
   exfalso
   rcases Nat.lt_trichotomy m n with h3|h3|h3
   ·have : (m + 1) * (ts.length + 1) ≤ n * (ts.length + 1) := Nat.mul_le_mul_right _ h3
    rw [Nat.add_mul,Nat.one_mul] at this;omega
   ·subst h3;omega
   ·have : (n + 1) * (ts.length + 1) ≤ m * (ts.length + 1) := Nat.mul_le_mul_right _ h3
    rw [Nat.add_mul,Nat.one_mul] at this;omega
  ·split at hr
   ·rename_i q
    have hmn : m = n := by
     rcases Nat.lt_trichotomy m n with h3|h3|h3
     ·have : (m + 1) * (ts.length + 1) ≤ n * (ts.length + 1) := Nat.mul_le_mul_right _ h3
      rw [Nat.add_mul,Nat.one_mul] at this;omega
     ·exact h3
     ·have : (n + 1) * (ts.length + 1) ≤ m * (ts.length + 1) := Nat.mul_le_mul_right _ h3
      rw [Nat.add_mul,Nat.one_mul] at this;omega
    subst hmn
    rw [Nat.add_sub_cancel_left,addB_get _ _ _ (by rw [h.d.ro _ hq]; exact hl)] at hr
    simp only [Bool.or_eq_true,Bool.and_eq_true] at hr
    rcases hr with hr | ⟨_,hr⟩
    ·exact h.d.f _ v l hm hv hr
    ·exact hf v l hv hr
   ·exact h.d.f m v l hm hv hr
 ·have hq : m * (ts.length + 1) + ts.length < R.length := by rw [hlo]; exact ix_lt hm (by omega)
  have hl := get_lt hr
  rw [hlen _ hq] at hl
  rw [jnR_get _ _ _ _ _ _ _ hq] at hr
  split at hr
  ·rename_i q
   have := hmul _ _ q
   subst this
   rw [addB_get _ _ _ (by rw [h.d.ro _ hq]; exact hl)] at hr
   simp only [Bool.or_eq_true,Bool.and_eq_true] at hr
   rcases hr with hr | ⟨_,hr⟩
   ·exact h.d.p _ l hm hr
   ·exact hp l hr
  ·split at hr
   ·rename_i q
    exfalso
    rcases Nat.lt_trichotomy m n with h3|h3|h3
    ·have : (m + 1) * (ts.length + 1) ≤ n * (ts.length + 1) := Nat.mul_le_mul_right _ h3
     rw [Nat.add_mul,Nat.one_mul] at this;omega
    ·subst h3;omega
    ·have : (n + 1) * (ts.length + 1) ≤ m * (ts.length + 1) := Nat.mul_le_mul_right _ h3
     rw [Nat.add_mul,Nat.one_mul] at this;omega
   ·exact h.d.p m l hm hr
 ·-- one more entry
  have hlt : fcS ts pts (jnR R (n * (ts.length + 1)) ts.length (afR ts pts i (rwF ts.length R1 i)) (afQ ts pts i (rwP ts.length R1 i)) ts.length) < fcS ts pts R := by
   have hc2 : ¬ ∀ l, l < (afQ ts pts i (rwP ts.length R1 i)).length → ((afQ ts pts i (rwP ts.length R1 i))[l]! = true → (rwP ts.length R n)[l]! = true) ∧ ∀ v, v < (afR ts pts i (rwF ts.length R1 i)).length → (afR ts pts i (rwF ts.length R1 i))[v]![l]! = true → (rwF ts.length R n)[v]![l]! = true := by
    intro hall
    rw [(wiB_iff _ _ _ _).2 hall] at hw;cases hw
   apply Classical.byContradiction
   intro hnl
   refine hc2 fun l hl => ?_
   rw [afQ_len] at hl
   have hmon := fun q (hq : q < pts.length * (ts.length + 1)) => cntF_mono (nv := pts.length) (hmono q (by omega))
   refine ⟨fun ha => ?_,fun v hv ha => ?_⟩
   ·apply Classical.byContradiction
    intro hb
    rw [Bool.not_eq_true] at hb
    unfold rwP at hb
    refine hnl (fcR_lt hmon (i := n * (ts.length + 1) + ts.length) (by omega) (cntF_lt (hmono _ hix) hl hb ?_))
    rw [jnR_get _ _ _ _ _ _ _ hix,if_pos rfl,addB_get _ _ _ (by rw [h.d.ro _ hix]; exact hl),ha,afQ_len,decide_eq_true hl]; simp
   ·rw [afR_len] at hv
    have hq : n * (ts.length + 1) + v < R.length := by rw [hlo]; exact ix_lt hn (by omega)
    apply Classical.byContradiction
    intro hb
    rw [Bool.not_eq_true,rwF_get hlo hn hv] at hb
    refine hnl (fcR_lt hmon (i := n * (ts.length + 1) + v) (by omega) (cntF_lt (hmono _ hq) hl hb ?_))
    rw [jnR_get _ _ _ _ _ _ _ hq,if_neg (by omega),if_pos (by omega),Nat.add_sub_cancel_left,addB_get _ _ _ (by rw [h.d.ro _ hq]; exact hl),ha]
    rw [decide_eq_true (get_lt ha)]; simp
  cases hc : c with
  | true => have := h.dec hc;omega
  | false => rw [← (h.same hc).1]; exact hlt
structure FH (ts : List Int) (pts : List Pnt) (R : List (List Bool)) (c : Bool) : Prop where
 d : FSd ts pts R
 cl : c = false → ∀ i k, i < pts.length → k < pts[i]!.next.length →
  wiB (afR ts pts i (rwF ts.length R i)) (rwF ts.length R (pts[i]!.next[k]!).toNat) (afQ ts pts i (rwP ts.length R i)) (rwP ts.length R (pts[i]!.next[k]!).toNat) = true
def DF (j kk : Nat) (i k : Nat) : Prop := i < j ∨ (i = j ∧ k < kk)
theorem FH.start {ts:List Int}{pts:List Pnt}{R:List (List Bool)}{c:Bool}(h:FH ts pts R c):FS ts pts R R false (DF 0 0) :=
 ⟨h.d,fun hc => (by cases hc),fun _ => ⟨rfl,fun i k hi hk hd => by unfold DF at hd;omega⟩⟩
theorem FH.init (ts:List Int) (pts:List Pnt):FH ts pts (List.replicate (pts.length * (ts.length + 1)) (List.replicate pts.length false)) true:=by
 have h0 : ∀ q l : Nat, (List.replicate (pts.length * (ts.length + 1)) (List.replicate pts.length false) : List (List Bool))[q]![l]! ≠ true := by
  intro q l h
  have h1 := get_lt h
  by_cases hq : q < pts.length * (ts.length + 1)
  ·rw [rep_get _ _ _ hq] at h h1
   rw [List.length_replicate] at h1
   rw [rep_get _ _ _ h1] at h;cases h
  ·rw [getElem!_neg _ q (by simpa using hq)] at h1
   exact absurd h1 (Nat.not_lt_zero _)
 exact ⟨⟨by simp,fun q hq => (by rw [rep_get _ _ _ (by simpa using hq)]; simp),fun n v l _ _ h => absurd h (h0 _ _),fun n l _ h => absurd h (h0 _ _)⟩,fun h => (by cases h)⟩
def muF (ts : List Int) (pts : List Pnt) (R : List (List Bool)) (c : Bool) : Nat := 2 * fcS ts pts R + (if c = true then 1 else 0)
theorem FS.fin {ts:List Int}{pts:List Pnt}{R0 R:List (List Bool)}{c:Bool}{j:Nat}(hz:pts.length ≤ j) (h:FS ts pts R0 R c (DF j 0)):FH ts pts R c ∧ muF ts pts R c < muF ts pts R0 true:=by
 refine ⟨⟨h.d,fun hc i k hi hk => (h.same hc).2 i k hi hk (.inl (by omega))⟩,?_⟩
 unfold muF
 cases hc : c with
 | true => have := h.dec hc;simp only [if_true]; omega
 | false => rw [(h.same hc).1]; simp
def flB (nv N : Nat) (Af Ap : List Nat) (n : Nat) : List (List Bool) × List Bool := ((List.range nv).map fun (v : Nat) => (List.range N).map fun (l : Nat) => Af[n * 6 + v]!.testBit l,(List.range N).map fun (l : Nat) => Ap[n]!.testBit l)
theorem FH.final {ts:List Int}{pts:List Pnt}(w:WG ts pts){R:List (List Bool)}{Af Ap:List Nat}(hAf:GoodF ts pts Af) (hAp:GoodP ts pts Ap) (h:FH ts pts R false) :
  ∀ n,n < pts.length → rwF ts.length R n = (flB ts.length pts.length Af Ap n).1 ∧ rwP ts.length R n = (flB ts.length pts.length Af Ap n).2 := by
 have htl := w.tl
 have hcl : ∀ {i n : Nat}, edge pts i n → ∀ l, l < (afQ ts pts i (rwP ts.length R i)).length → ((afQ ts pts i (rwP ts.length R i))[l]! = true → (rwP ts.length R n)[l]! = true) ∧ ∀ v, v < (afR ts pts i (rwF ts.length R i)).length → (afR ts pts i (rwF ts.length R i))[v]![l]! = true → (rwF ts.length R n)[v]![l]! = true := by
  intro i n e
  obtain ⟨k,hk,hkn⟩ := mem_idx e
  have := (wiB_iff _ _ _ _).1 (h.cl rfl i k e.1 hk)
  rw [hkn] at this
  exact this
 have kf : ∀ a : Nat × Nat × Nat, Fr' ts pts a → (a.1 < pts.length ∧ a.2.1 < ts.length ∧ a.2.2 < pts.length ∧ R[a.1 * (ts.length + 1) + a.2.1]![a.2.2]! = true) := by
  refine Clo.sub (T := fun a : Nat × Nat × Nat => a.1 < pts.length ∧ a.2.1 < ts.length ∧ a.2.2 < pts.length ∧ R[a.1 * (ts.length + 1) + a.2.1]![a.2.2]! = true) ?_ ?_
  ·rintro ⟨n, v, l⟩ ⟨e, hln, hs⟩
   dsimp only at e hln hs ⊢
   have hv : v < ts.length := by have := (w.set l e.1).1;omega
   have hn := edge_lt w e
   refine ⟨hn,hv,e.1,?_⟩
   have := (hcl e l (by rw [afQ_len]; exact e.1)).2 v (by rw [afR_len]; exact hv) (by
    rw [afR_get _ _ _ _ _ hv,if_pos hs,valB_get _ _ _ _ _ e.1,hln]
    have := isLn_op hln
    rw [if_neg (by omega)]; simp)
   rwa [rwF_get h.d.lo hn hv] at this
  ·rintro ⟨i, v, l⟩ ⟨n, v', l'⟩ ⟨hi, hv, hl, hr⟩ ⟨rfl, e, hor⟩
   dsimp only at hi hv hl hr e hor ⊢
   have hn := edge_lt w e
   rcases hor with ⟨hs,rfl,hu⟩ | ⟨hs,hy,hc⟩
   ·refine ⟨hn, hv, hl, ?_⟩
    have := (hcl e _ (by rw [afQ_len]; exact hl)).2 _ (by rw [afR_len]; exact hv) (by
     rw [afR_get _ _ _ _ _ hv,if_neg hs,if_neg hu,rwF_get h.d.lo hi hv]; exact hr)
    rwa [rwF_get h.d.lo hn hv] at this
   ·have hv' : v' < ts.length := by have := (w.set i hi).1; omega
    refine ⟨hn,hv',hl,?_⟩
    have hyv : pts[i]!.y.toNat = v := by omega
    have := (hcl e _ (by rw [afQ_len]; exact hl)).2 v' (by rw [afR_len]; exact hv') (by
     rw [afR_get _ _ _ _ _ hv',if_pos hs,valB_get _ _ _ _ _ hl,hyv,rwF_get h.d.lo hi hv,hr]
     rcases hc with ⟨h1,h2⟩|h1
     ·have := isLn_op h1
      rw [if_neg (by omega),h1,h2]; simp
     ·rw [if_pos h1])
    rwa [rwF_get h.d.lo hn hv'] at this
 have kp : ∀ a : Nat × Nat, Pl' ts pts a → (a.1 < pts.length ∧ a.2 < pts.length ∧ R[a.1 * (ts.length + 1) + ts.length]![a.2]! = true) := by
  refine Clo.sub (T := fun a : Nat × Nat => a.1 < pts.length ∧ a.2 < pts.length ∧ R[a.1 * (ts.length + 1) + ts.length]![a.2]! = true) ?_ ?_
  ·rintro ⟨n, l⟩ ⟨e, hln⟩
   dsimp only at e hln ⊢
   refine ⟨edge_lt w e,e.1,?_⟩
   exact (hcl e l (by rw [afQ_len]; exact e.1)).1 (by rw [afQ_get _ _ _ _ _ e.1,hln]; simp)
  ·rintro ⟨i, l⟩ ⟨n, l'⟩ ⟨hi, hl, hr⟩ ⟨rfl, e, hu, hs⟩
   dsimp only at hi hl hr e hu hs ⊢
   refine ⟨edge_lt w e,hl,?_⟩
   refine (hcl e _ (by rw [afQ_len]; exact hl)).1 ?_
   have hr' : (rwP ts.length R i)[l']! = true := hr
   rw [afQ_get _ _ _ _ _ hl,hr',decide_eq_false hu,decide_eq_false hs]; simp
 intro n hn
 refine ⟨?_,?_⟩
 ·refine ext_get (by rw [rwF_len h.d.lo hn]; simp [flB]) fun v hv => ?_
  rw [rwF_len h.d.lo hn] at hv
  have hq : n * (ts.length + 1) + v < R.length := by rw [h.d.lo]; exact ix_lt hn (by omega)
  rw [rwF_get h.d.lo hn hv]
  unfold flB
  dsimp only
  rw [mapR_get _ _ _ hv]
  refine ext_get (by rw [h.d.ro _ hq]; simp) fun l hl => ?_
  rw [h.d.ro _ hq] at hl
  rw [mapR_get _ _ _ hl,Bool.eq_iff_iff,hAf.2 n v hn (by omega) l]
  exact ⟨fun hr => h.d.f n v l hn hv hr,fun hk => (kf (n,v,l) hk).2.2.2⟩
 ·have hq : n * (ts.length + 1) + ts.length < R.length := by rw [h.d.lo]; exact ix_lt hn (by omega)
  unfold rwP flB
  dsimp only
  refine ext_get (by rw [h.d.ro _ hq]; simp) fun l hl => ?_
  rw [h.d.ro _ hq] at hl
  rw [mapR_get _ _ _ hl,Bool.eq_iff_iff,hAp.2 n hn l]
  exact ⟨fun hr => h.d.p n l hn hr,fun hk => (kp (n,l) hk).2.2⟩
def lvG (ts : List Int) (x : Pnt) (fr : List (List Bool)) (lv : List Bool) (l v : Nat) : Bool := lv[v]! && (!decide (setAt x = (v : Int)) && (!decide (useAt ts x (v : Int) = 2) && fr[v]![l]!))
def lvB (ts : List Int) (x : Pnt) (fr : List (List Bool)) (lv : List Bool) (N : Nat) : List Bool := (List.range N).map fun (l : Nat) => (List.range lv.length).any (lvG ts x fr lv l)
theorem filt_range {p q:Nat → Bool}{n:Nat}(h:∀ v,v < n → p v = q v):(List.range n).filter p = (List.range n).filter q :=
 List.filter_congr fun v hv => h v (List.mem_range.1 hv)
theorem bitsI_of {A n:Nat}{p:Nat → Bool}(hA:Sm A) (hn:n ≤ 62) (h:∀ v,A.testBit v = (decide (v < n) && p v)):bitsI A = ((List.range n).filter p).map (fun v:Nat => (v:Int)):=by
 rw [bitsI_pre (k := n) (fun v hv => by rw [h v,decide_eq_false (by omega)]; rfl) (by omega) hA]
 congr 1
 exact filt_range fun v hv => by rw [h v,decide_eq_true hv]; rfl
def spU (ts : List Int) (pts : List Pnt) (Aa : List Nat) (i v : Nat) : Bool := !decide (useAt ts pts[i]! v = 0) && !Aa[i]!.testBit v
def spK (pts : List Pnt) (l : Nat) : Int := if pts[l]!.op = 5 then 3 else 2
def spP (ts : List Int) (pts : List Pnt) (Aa : List Nat) (cf : List Bool) (i : Nat) : List Iss :=
 ((List.range ts.length).filter (spU ts pts Aa i)).map (fun (v : Nat) => ⟨i,1,v⟩) ++ ((List.range pts.length).filter (fun (l : Nat) => cf[l]!)).map (fun (l : Nat) => ⟨i,spK pts l,l⟩)
def spC (ts : List Int) (pts : List Pnt) (Am Al Af Ap : List Nat) (i : Nat) : List Bool :=
 cfB pts (accF ts pts[i]! (rowsB ts.length pts.length Am)[i]![(setAt pts[i]!).toNat]!) (flB ts.length pts.length Af Ap i).2 (lvB ts pts[i]! (flB ts.length pts.length Af Ap i).1 (rowsB ts.length pts.length Al)[i]! pts.length)
theorem accF_m {ts:List Int}{x:Pnt}{m m':Bool}(h:0 ≤ setAt x → m = m'):accF ts x m = accF ts x m':=by
 unfold accF
 by_cases h0 : 0 ≤ setAt x
 ·rw [h h0]
 ·simp only [h0,false_and,if_false]
theorem spP_eqA {ts:List Int}{pts:List Pnt}(w:WG ts pts) (f:Flows ts pts){Af:List Nat}(hlf:Af.length = pts.length * 6){i:Nat}(hi:i < pts.length):spP ts pts f.Aa (spC ts pts f.Am f.Al Af f.Ap i) i = issP ts pts f.Aa f.Am f.Al Af f.Ap i:=by
 have htl := w.tl
 have hpl := w.pl
 have hset := w.set i hi
 unfold spP issP
 congr 1
 ·unfold issU
  have hsm : Sm (anl (wS ts pts[i]! [1, 2, 3]) f.Aa[i]!) := by
   have : Sm (wS ts pts[i]! [1,2,3]) := mkBits_sm (by omega)
   infer_instance
  rw [bitsI_of (n := ts.length) (p := spU ts pts f.Aa i) hsm (by omega) fun v => ?_,List.map_map]
  ·rfl
  ·rw [testBit_anl, testBit_wS, Bool.and_assoc]
   congr 1
   unfold spU
   congr 1
   have hu := useAt_bd ts pts[i]! v
   by_cases e : useAt ts pts[i]! v = 0
   ·rw [e]; rfl
   ·rw [decide_eq_false e]
    have : useAt ts pts[i]! v ∈ ([1, 2, 3] : List Int) := by
     simp only [List.mem_cons,List.not_mem_nil,or_false]; omega
    rw [decide_eq_true this]; rfl
 ·unfold issC
  have hap : f.Ap[i]! < 2 ^ pts.length := by
   apply Nat.lt_pow_two_of_testBit
   intro l hl
   rw [Bool.eq_false_iff]; intro hq
   have := (Pl_ln ((f.gp.2 i hi l).1 hq)).1
   dsimp only at this;omega
  have hcn := cfN_lt w (Am := f.Am) (Al := f.Al) (Af := Af) hap
  have hsm : Sm (cfN ts pts f.Am f.Al Af f.Ap i) := ⟨Nat.lt_of_lt_of_le hcn (Nat.pow_le_pow_right (by decide) (by omega))⟩
  rw [bitsI_of (n := pts.length) (p := fun l => (spC ts pts f.Am f.Al Af f.Ap i)[l]!) hsm (by omega) fun l => ?_,List.map_map]
  ·rfl
  ·by_cases hl : l < pts.length
   ·rw [decide_eq_true hl, Bool.true_and, Bool.eq_iff_iff]
    have hloans : Sm (kpF ts pts[i]! f.Al[i]! (row6 Af i) &&& f.Ap[i]!) := ⟨Nat.lt_of_lt_of_le (Nat.and_lt_two_pow _ hap) (Nat.pow_le_pow_right (by decide) (by omega))⟩
    have hal : f.Al[i]! < 2 ^ ts.length := by
     apply Nat.lt_pow_two_of_testBit
     intro v hv
     rw [Bool.eq_false_iff]; intro hq
     obtain ⟨k,e,hk⟩ := (f.gl.2 i hi v).1 hq
     have := Nd_lt w hk
     dsimp only at this;omega
    have hacc : accF ts pts[i]! (rowsB ts.length pts.length f.Am)[i]![(setAt pts[i]!).toNat]! = accF ts pts[i]! (f.Am[i]!.testBit (setAt pts[i]!).toNat) := accF_m fun h0 => rowsB_get _ _ _ _ _ hi (by omega)
    have hkp : (kpF ts pts[i]! f.Al[i]! (row6 Af i)).testBit l = true ↔ (lvB ts pts[i]! (flB ts.length pts.length Af f.Ap i).1 (rowsB ts.length pts.length f.Al)[i]! pts.length)[l]! = true := by
     unfold lvB
     rw [mapR_get _ _ _ hl]
     unfold kpF
     rw [testBit_orL,List.any_eq_true,rowsB_row _ _ _ _ hi]
     simp only [Nat.zero_testBit,Bool.false_eq_true,false_or,List.length_map,List.length_range,List.mem_range]
     constructor
     ·rintro ⟨z, hz, h2⟩
      obtain ⟨v,h3,h4,rfl⟩ := mem_bitsI.1 hz
      rw [testBit_anl,Nat.testBit_or,testBit_wS,testBit_sbit (by omega)] at h4
      simp only [Bool.and_eq_true,Bool.not_eq_true',Bool.or_eq_false_iff,Bool.and_eq_false_iff,decide_eq_false_iff_not] at h4
      have hv := lt_of_bits hal h4.1
      refine ⟨v,hv,?_⟩
      unfold lvG
      rw [mapR_get _ _ _ hv,h4.1,decide_eq_false h4.2.2]
      have hu : ¬ useAt ts pts[i]! v = 2 := by
       rcases h4.2.1 with h5|h5
       ·exact absurd hv h5
       ·simpa using h5
      rw [decide_eq_false hu]
      unfold flB
      dsimp only
      rw [mapR_get _ _ _ hv,mapR_get _ _ _ hl]
      have h6 : (row6 Af i)[v]! = Af[i * 6 + v]! := row6_at hlf hi (by omega)
      rw [Int.toNat_natCast,h6] at h2
      rw [h2]; rfl
     ·rintro ⟨v, hv, h2⟩
      unfold lvG at h2
      rw [mapR_get _ _ _ hv] at h2
      unfold flB at h2
      dsimp only at h2
      rw [mapR_get _ _ _ hv,mapR_get _ _ _ hl] at h2
      simp only [Bool.and_eq_true,Bool.not_eq_true',decide_eq_false_iff_not] at h2
      refine ⟨(v : Int),mem_bitsI.2 ⟨v,by omega,?_,rfl⟩,?_⟩
      ·rw [testBit_anl, Nat.testBit_or, testBit_wS, testBit_sbit (by omega), h2.1, decide_eq_false h2.2.1]
       have : decide (useAt ts pts[i]! (v : Int) ∈ ([2] : List Int)) = false := by simpa using h2.2.2.1
       rw [this]; simp
      ·rw [Int.toNat_natCast,row6_at hlf hi (by omega)]; exact h2.2.2.2
    have hplc : (flB ts.length pts.length Af f.Ap i).2[l]! = f.Ap[i]!.testBit l := by unfold flB;dsimp only;rw [mapR_get _ _ _ hl]
    unfold cfN spC
    rw [testBit_agF _ _ _ hloans,cfB_get _ _ _ _ _ hl,hacc,List.any_eq_true]
    simp only [Nat.zero_testBit,Bool.false_eq_true,false_or]
    constructor
    ·rintro ⟨c, hc, h1, h2, h3⟩
     rw [Nat.testBit_and,Bool.and_eq_true] at h1
     rw [testBit_ofV] at h2
     simp only [Bool.and_eq_true,decide_eq_true_eq] at h2
     have hy := isLn_y w hl h2.2.1
     have hcv := accF_ok _ w hi c hc
     refine ⟨c,hc,?_⟩
     unfold cfg
     have e2 := h2.2.2
     rw [Nat.testBit_two_pow,decide_eq_true_eq] at e2
     rw [hkp.1 h1.1,hplc,h1.2,decide_eq_true (by omega : pts[l]!.y = c.var)]
     rcases h3 with h3|h3
     ·rw [h3]; rfl
     ·rw [decide_eq_true h3]; simp
    ·rintro ⟨c, hc, h1⟩
     unfold cfg at h1
     rw [hplc] at h1
     simp only [Bool.and_eq_true,Bool.or_eq_true,decide_eq_true_eq] at h1
     obtain ⟨⟨⟨h1,h2⟩,h3⟩,h4⟩ := h1
     have hln := (Pl_ln ((f.gp.2 i hi l).1 h2)).2
     dsimp only at hln
     refine ⟨c,hc,?_,?_,h4⟩
     ·rw [Nat.testBit_and,hkp.2 h1,h2]; rfl
     ·rw [testBit_ofV,decide_eq_true hl,hln,← h3,Nat.testBit_two_pow_self]; rfl
   ·rw [decide_eq_false hl, Bool.false_and]
    exact Nat.testBit_lt_two_pow (Nat.lt_of_lt_of_le hcn (Nat.pow_le_pow_right (by decide) (by omega)))
theorem spP_eq {ts:List Int}{pts:List Pnt}(w:WG ts pts) (f:Flows ts pts){i:Nat}(hi:i < pts.length):spP ts pts f.Aa (spC ts pts f.Am f.Al f.Af f.Ap i) i = issP ts pts f.Aa f.Am f.Al f.Af f.Ap i := spP_eqA w f f.gf.1 hi
end Go.AL
