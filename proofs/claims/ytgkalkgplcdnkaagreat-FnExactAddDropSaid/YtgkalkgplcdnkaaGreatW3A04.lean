/-
 A part of the proofs over this program: rules and contracts of its functions (the rules).
-/
import Derived.Test.YtgkalkgplcdnkaaGreatW3A03
set_option linter.unusedVariables false
set_option linter.unusedSimpArgs false
namespace Go.AL
open Go.RowKit
mutual
def nP : Stmt → Nat
 | .mk op _ _ _ th el => if op = 9 then 2 + b8 th + b8 el else if op = 10 then 2 + b8 th else 1
def b8 : List Stmt → Nat
 | [] => 0
 | s :: l => nP s + b8 l
end
mutual
def BB (b : Nat) : Stmt → List Pnt
 | .mk op x y n th el =>
  if op = 9 then [⟨9,0,0,0,[(b : Int) + 1,(b : Int) + 1 + b8 th + 1]⟩] ++ gA (b + 1) th ++ [⟨10,0,0,1,[(b : Int) + 2 + b8 th + b8 el]⟩] ++ gA (b + 2 + b8 th) el
  else if op = 10 then [⟨10,0,0,0,[(b : Int) + 1,(b : Int) + 2 + b8 th]⟩] ++ gA (b + 1) th ++ [⟨10,0,0,1,[(b : Int)]⟩]
  else [⟨op,x,y,n,[(b : Int) + 1]⟩]
def gA (b : Nat) : List Stmt → List Pnt
 | [] => []
 | s :: l => BB b s ++ gA (b + nP s) l
end
mutual
theorem Bo:∀ (s:Stmt) (b:Nat),(BB b s).length = nP s
 | .mk op x y n th el, b => by
  have h1 := bK th (b + 1)
  have h2 := bK el (b + 2 + b8 th)
  simp only [BB,nP]
  split
  ·simp [h1,h2]; omega
  ·split
   ·simp [h1]; omega
   ·simp
theorem bK:∀ (l:List Stmt) (b:Nat),(gA b l).length = b8 l
 | [],b => by simp [gA,b8]
 | s :: l,b => by simp only [gA,b8,List.length_append,Bo s b,bK l (b + nP s)]
end
mutual
theorem IW:∀ (s:Stmt),nP s ≤ 2 * cP s
 | .mk op x y n th el => by
  have h1 := gZ th
  have h2 := gZ el
  simp only [nP,cP]; split
  ·omega
  ·split <;> omega
theorem gZ:∀ (l:List Stmt),b8 l ≤ 2 * aI l
 | [] => by simp [b8,aI]
 | s :: l => by have h1 := IW s;have h2 := gZ l;simp only [b8,aI]; omega
end
theorem mN:∀ a b,b8 (a ++ b) = b8 a + b8 b
 | [],b => by simp [b8]
 | s :: a,b => by simp only [List.cons_append,b8,mN a b]; omega
theorem p8:∀ (a b:List Stmt) (k:Nat),gA k (a ++ b) = gA k a ++ gA (k + b8 a) b
 | [],b,k => by simp [gA,b8]
 | s :: a,b,k => by simp only [List.cons_append,gA,b8,p8 a b,List.append_assoc,Nat.add_assoc]
theorem fH (l:List Stmt) (b k:Nat) (hk:k < l.length):gA b (l.take (k + 1)) = gA b (l.take k) ++ BB (b + b8 (l.take k)) l[k]!:=by
 rw [bQ _ _ hk,p8]; simp [gA]
theorem eN (l:List Stmt) (k:Nat) (hk:k < l.length):b8 (l.take (k + 1)) = b8 (l.take k) + nP l[k]!:=by
 rw [bQ _ _ hk,mN]; simp [b8]
theorem fX (l:List Stmt) (k:Nat):b8 (l.take k) ≤ b8 l:=by
 conv => rhs;rw [← List.take_append_drop k l]
 rw [mN]; omega
theorem tS (s:Stmt):nP s = if s.op = 9 then 2 + b8 s.th + b8 s.el else if s.op = 10 then 2 + b8 s.th else 1:=by
 cases s;simp only [nP,Stmt.op,Stmt.th,Stmt.el]; rfl
theorem gS (b:Nat) (s:Stmt):BB b s = if s.op = 9 then [⟨9,0,0,0,[(b:Int) + 1,(b:Int) + 1 + b8 s.th + 1]⟩] ++ gA (b + 1) s.th ++ [⟨10,0,0,1,[(b:Int) + 2 + b8 s.th + b8 s.el]⟩] ++ gA (b + 2 + b8 s.th) s.el
  else if s.op = 10 then [⟨10,0,0,0,[(b : Int) + 1,(b : Int) + 2 + b8 s.th]⟩] ++ gA (b + 1) s.th ++ [⟨10,0,0,1,[(b : Int)]⟩]
  else [⟨s.op,s.x,s.y,s.n,[(b : Int) + 1]⟩] := by
 cases s;simp only [BB,Stmt.op,Stmt.th,Stmt.el,Stmt.x,Stmt.y,Stmt.n]; rfl
def aE (p : Prg) : List Pnt := gA 0 p.body ++ [⟨11,0,0,0,[]⟩]
theorem fB (p:Prg):(aE p).length = b8 p.body + 1 := by simp [aE,bK]
theorem iJ {α:Type}{f:α → List AV}{e:Nat}[h:FlT f e] {xs:List α}{m:Nat}{new:List AV}{y:α}(hm:m = xs.length) (hn:new = f y):((flat f xs).drop 0).take (m * e) ++ new = flat f (xs ++ [y]):=by
 subst hm hn
 rw [List.drop_zero,List.take_of_length_le (by rw [aK f (e := e)]; exact Nat.le_refl _),← bC,k6]
theorem FP {xs:List Pnt}{m:Nat}{a b c d:Int}(hm:m = xs.length):((flat b0 xs).drop 0).take (m * 5) ++ [iv a,iv b,iv c,iv d,.imm 0 []] = flat b0 (xs ++ [⟨a,b,c,d,[]⟩]) := iJ hm rfl
theorem D3 {xs:List Pnt}{m:Nat}{a b c d e:Int}(hm:m = xs.length):((flat b0 xs).drop 0).take (m * 5) ++ [iv a,iv b,iv c,iv d,.imm 1 [iv e]] = flat b0 (xs ++ [⟨a,b,c,d,[e]⟩]) := iJ hm rfl
theorem GF {xs:List Int}{m:Nat}{a:Int}(hm:m = xs.length):((flat cI xs).drop 0).take (m * 1) ++ [iv a] = flat cI (xs ++ [a]) := iJ hm rfl
theorem GP (A B C new:List AV) (j:Nat) (hj:j + new.length ≤ B.length):iH (A ++ (B ++ C)) (A.length + j) new = A ++ (iH B j new ++ C):=by
 unfold iH
 rw [List.take_length_add_append,Nat.add_assoc,List.drop_length_add_append,List.take_append_of_le_length (by omega),List.drop_append_of_le_length hj]
 simp only [List.append_assoc]
theorem zV {α:Type}[Inhabited α] {f:α → List AV}{e:Nat}[h:FlT f e] {xs:List α}{k:Nat}(hk:k < xs.length):flat f xs = flat f (xs.take k) ++ (f xs[k]! ++ flat f (xs.drop (k + 1))):=by
 rw [← fT f (e := e) xs k hk,← eH f (e := e),List.take_append_drop]
theorem lK {α:Type}[Inhabited α] {f:α → List AV}{e:Nat}[h:FlT f e] {xs:List α}{k j:Nat}{new:List AV}{y:α}(hk:k < xs.length) (hj:j + new.length ≤ e) (hy:iH (f xs[k]!) j new = f y):iH (flat f xs) (0 + k * e + j) new = flat f (xs.set k y):=by
 have h3 : (flat f (xs.take k)).length = k * e := by rw [aK f (e := e),List.length_take]; congr 1;omega
 rw [zV (e := e) hk,Nat.zero_add,← h3,GP _ _ _ _ _ (by rw [h.pf]; exact hj),hy,List.set_eq_take_append_cons_drop,if_pos hk,← bC]
 simp only [flat,List.flatMap_cons]
theorem gH {α:Type}[Inhabited α] {f:α → List AV}{e:Nat}[h:FlT f e] {xs:List α}{k:Nat}{new:List AV}{y:α}(hk:k < xs.length) (hy:new = f y):iH (flat f xs) (0 + k * e) new = flat f (xs.set k y):=by
 subst hy
 rw [Nat.zero_add]; exact Fj f xs k y hk
theorem En {xs:List Pnt}{k:Nat}{a:Int}(hk:k < xs.length):iH (flat b0 xs) (0 + k * 5 + 4) [.imm 1 [iv a]] = flat b0 (xs.set k { xs[k]! with next := [a] }) := lK hk (by simp) rfl
theorem EB {xs:List Pnt}{k:Nat}{a b:Int}(hk:k < xs.length):iH (flat b0 xs) (0 + k * 5 + 4) [.imm 2 [iv a,iv b]] = flat b0 (xs.set k { xs[k]! with next := [a,b] }) := lK hk (by simp) rfl
theorem Ir {xs:List Int}{k:Nat}{a:Int}(hk:k < xs.length):iH (flat cI xs) (0 + k * 1) [iv a] = flat cI (xs.set k a) := gH hk rfl
theorem uN {xs:List Bool}{k:Nat}{a:Bool}(hk:k < xs.length):iH (flat cB xs) (0 + k * 1) [bv a] = flat cB (xs.set k a) := gH hk rfl
theorem FJ (s:Stmt):s.op = 9 → nP s = 2 + b8 s.th + b8 s.el := by intro h;rw [tS,if_pos h]
theorem AB (s:Stmt):s.op = 10 → nP s = 2 + b8 s.th := by intro h;rw [tS,if_neg (by omega),if_pos h]
theorem E4 (s:Stmt):¬ s.op = 9 → ¬ s.op = 10 → nP s = 1 := by intro h h2;rw [tS,if_neg h,if_neg h2]
theorem zD (l:List Stmt) (k:Nat):k < l.length → b8 (l.take k) + nP l[k]! ≤ b8 l:=by
 intro h;have := fX l (k + 1);rw [eN l k h] at this;exact this
theorem pH {α:Type}(A:List α) (x y:α) (B:List α):(A ++ x :: B).set A.length y = A ++ y :: B:=by
 rw [List.set_append_right _ _ (Nat.le_refl _),Nat.sub_self,List.set_cons_zero]
theorem u6 {α:Type}[Inhabited α] (A:List α) (x:α) (B:List α):(A ++ x :: B)[A.length]! = x:=by
 rw [bF _ _ (by simp),List.getElem_append_right (Nat.le_refl _)]; simp
theorem uQ {xs T E:List Pnt}{p q:Pnt}{m:Nat}(hm:m = xs.length):(xs ++ [p] ++ T ++ [q] ++ E)[m]! = p:=by
 subst hm;simp only [List.append_assoc,List.singleton_append,List.cons_append,List.nil_append]; exact u6 _ _ _
theorem vC {xs T E:List Pnt}{p q p':Pnt}{m:Nat}(hm:m = xs.length):(xs ++ [p] ++ T ++ [q] ++ E).set m p' = xs ++ [p'] ++ T ++ [q] ++ E:=by
 subst hm;simp only [List.append_assoc,List.singleton_append,List.cons_append,List.nil_append]; exact pH _ _ _ _
theorem tG {xs T E:List Pnt}{p q:Pnt}{j:Nat}(hj:j = xs.length + 1 + T.length):(xs ++ [p] ++ T ++ [q] ++ E)[j]! = q:=by
 have h : j = (xs ++ [p] ++ T).length := by simp [hj]; omega
 subst h
 rw [show xs ++ [p] ++ T ++ [q] ++ E = (xs ++ [p] ++ T) ++ q :: E by simp]; exact u6 _ _ _
theorem vG {xs T E:List Pnt}{p q q':Pnt}{j:Nat}(hj:j = xs.length + 1 + T.length):(xs ++ [p] ++ T ++ [q] ++ E).set j q' = xs ++ [p] ++ T ++ [q'] ++ E:=by
 have h : j = (xs ++ [p] ++ T).length := by simp [hj]; omega
 subst h
 rw [show xs ++ [p] ++ T ++ [q] ++ E = (xs ++ [p] ++ T) ++ q :: E by simp,pH]; simp
theorem y9 {xs T:List Pnt}{p q:Pnt}{m:Nat}(hm:m = xs.length):(xs ++ [p] ++ T ++ [q])[m]! = p:=by
 subst hm;simp only [List.append_assoc,List.singleton_append,List.cons_append,List.nil_append]; exact u6 _ _ _
theorem yX {xs T:List Pnt}{p q p':Pnt}{m:Nat}(hm:m = xs.length):(xs ++ [p] ++ T ++ [q]).set m p' = xs ++ [p'] ++ T ++ [q]:=by
 subst hm;simp only [List.append_assoc,List.singleton_append,List.cons_append,List.nil_append]; exact pH _ _ _ _
structure WG (ts : List Int) (pts : List Pnt) : Prop where
 tl : ts.length ≤ 6
 ty : ∀ v,v < ts.length → 1 ≤ ts[v]! ∧ ts[v]! ≤ 4
 pl : pts.length ≤ 61
 p0 : 0 < pts.length
 nx : ∀ i,i < pts.length → ∀ k ∈ pts[i]!.next,0 ≤ k ∧ k < pts.length
 nl : ∀ i,i < pts.length → pts[i]!.next.length ≤ 2
 op : ∀ i,i < pts.length → 1 ≤ pts[i]!.op ∧ pts[i]!.op ≤ 11
 x : ∀ i,i < pts.length → 0 ≤ pts[i]!.x ∧ (pts[i]!.op ≤ 8 → pts[i]!.x < ts.length)
 y : ∀ i,i < pts.length → 0 ≤ pts[i]!.y ∧ (3 ≤ pts[i]!.op → pts[i]!.op ≤ 7 → pts[i]!.y < ts.length)
def H8 (nv b e : Nat) (x : Pnt) : Prop := (∀ k ∈ x.next,0 ≤ k ∧ k < (e : Int)) ∧ x.next.length ≤ 2 ∧ 1 ≤ x.op ∧ x.op ≤ 11 ∧ 0 ≤ x.x ∧ (x.op ≤ 8 → x.x < (nv : Int)) ∧ 0 ≤ x.y ∧ (3 ≤ x.op → x.op ≤ 7 → x.y < (nv : Int))
theorem AE {ts:List Int}(ht:bO ts = true){s:Stmt}(h:fF ts s = true):1 ≤ s.op ∧ s.op ≤ 8 ∧ 0 ≤ s.x ∧ s.x < ts.length ∧ 0 ≤ s.y ∧ (3 ≤ s.op → s.op ≤ 7 → s.y < ts.length):=by
 have hx := fR ht s.x
 have hy := fR ht s.y
 have bx := gV ht s.x
 have by' := gV ht s.y
 unfold fF at h
 dsimp only at h
 repeat' split at h
 all_goals first
  | (simp only [decide_eq_true_eq] at h;omega)
  | (cases h;done)
mutual
theorem IA {ts:List Int}(ht:bO ts = true):∀ (s:Stmt) (d b e:Nat),rW ts d s = true → b + nP s < e → ∀ x ∈ BB b s,H8 ts.length b e x
 | .mk op x y n th el, d, b, e, h, hb => by
  simp only [rW] at h
  split at h
  ·rename_i hop
   simp only [Bool.and_eq_true] at h
   have hs := AE ht h.2
   simp only [Stmt.op,Stmt.x,Stmt.y] at hs
   simp only [nP,hop.1,hop.2,if_false] at hb
   simp only [BB,hop.1,hop.2,if_false,List.mem_singleton]
   rintro z rfl
   refine ⟨?_,by simp,hs.1,by show op ≤ 11;omega,hs.2.2.1,fun _ => hs.2.2.2.1,hs.2.2.2.2.1,hs.2.2.2.2.2⟩
   simp only [List.mem_singleton]; rintro k rfl;omega
  ·rename_i hop
   cases d with
   | zero => cases h
   | succ d =>
    simp only [Bool.and_eq_true,decide_eq_true_eq] at h
    obtain ⟨⟨⟨_,_⟩,h1⟩,h2⟩ := h
    by_cases h9 : op = 9
    ·subst h9
     simp only [nP,if_true] at hb
     simp only [BB,if_true,List.mem_append,List.mem_singleton]
     rintro z (((rfl|hz)|rfl)|hz)
     ·refine ⟨?_, by simp, by simp, by simp, by simp, by simp, by simp, by simp⟩
      simp only [List.mem_cons,List.not_mem_nil,or_false]; rintro k (rfl|rfl) <;> omega
     ·exact qD ht th d (b + 1) e h1 (by omega) z hz
     ·refine ⟨?_, by simp, by simp, by simp, by simp, by simp, by simp, by simp⟩
      simp only [List.mem_singleton]; rintro k rfl;omega
     ·exact qD ht el d (b + 2 + b8 th) e h2 (by omega) z hz
    ·have h10 : op = 10 := by omega
     subst h10
     simp only [nP,if_true,show ((10 : Int) = 9) = False by simp,if_false] at hb
     simp only [BB,if_true,show ((10 : Int) = 9) = False by simp,if_false,List.mem_append,List.mem_singleton]
     rintro z ((rfl|hz)|rfl)
     ·refine ⟨?_, by simp, by simp, by simp, by simp, by simp, by simp, by simp⟩
      simp only [List.mem_cons,List.not_mem_nil,or_false]; rintro k (rfl|rfl) <;> omega
     ·exact qD ht th d (b + 1) e h1 (by omega) z hz
     ·refine ⟨?_, by simp, by simp, by simp, by simp, by simp, by simp, by simp⟩
      simp only [List.mem_singleton]; rintro k rfl;omega
theorem qD {ts:List Int}(ht:bO ts = true):∀ (l:List Stmt) (d b e:Nat),okL ts d l = true → b + b8 l < e → ∀ x ∈ gA b l,H8 ts.length b e x
 | [],d,b,e,h,hb => by simp [gA]
 | s :: l, d, b, e, h, hb => by
  simp only [okL,Bool.and_eq_true] at h
  simp only [b8] at hb
  simp only [gA,List.mem_append]
  rintro x (hx|hx)
  ·exact IA ht s d b e h.1 (by omega) x hx
  ·exact qD ht l d (b + nP s) e h.2 (by omega) x hx
end
theorem WG.of_valid {p:Prg}(h:bE p = true):WG p.types (aE p):=by
 unfold bE at h
 simp only [Bool.and_eq_true,decide_eq_true_eq] at h
 obtain ⟨⟨ht,hl⟩,hc⟩ := h
 have hn := gZ p.body
 have hlen := fB p
 have key : ∀ i, i < (aE p).length → H8 p.types.length 0 (aE p).length (aE p)[i]! := by
  intro i hi
  have hm := bT _ i hi
  unfold aE at hm
  rw [List.mem_append,List.mem_singleton] at hm
  rcases hm with hm|hm
  ·exact qD ht p.body 4 0 _ hl (by omega) _ hm
  ·unfold aE;rw [hm]; exact ⟨by simp,by simp,by simp,by simp,by simp,by simp,by simp,by simp⟩
 exact ⟨dH ht, l8 ht, by omega, by omega, fun i hi => (key i hi).1, fun i hi => (key i hi).2.1, fun i hi => ⟨(key i hi).2.2.1, (key i hi).2.2.2.1⟩,
  fun i hi => ⟨(key i hi).2.2.2.2.1,(key i hi).2.2.2.2.2.1⟩,fun i hi => ⟨(key i hi).2.2.2.2.2.2.1,(key i hi).2.2.2.2.2.2.2⟩⟩
inductive Clo {α : Type} (S : α → Prop) (R : α → α → Prop) : α → Prop
 | base {a : α} (h : S a) : Clo S R a
 | step {a b : α} (h : Clo S R a) (r : R a b) : Clo S R b
theorem Clo.sub {α:Type}{S:α → Prop}{R:α → α → Prop}{T:α → Prop}(h1:∀ a,S a → T a) (h2:∀ a b,T a → R a b → T b):∀ a,Clo S R a → T a:=by
 intro a h
 induction h with
 | base h => exact h1 _ h
 | step _ r ih => exact h2 _ _ ih r
def c9 (pts : List Pnt) (i k : Nat) : Prop := i < pts.length ∧ (k : Int) ∈ pts[i]!.next
def Mb (ts : List Int) (pts : List Pnt) (a : Nat × Nat) : Prop := Clo (fun a => ∃ i,c9 pts i a.1 ∧ aT pts[i]! = a.2) (fun a b => b.2 = a.2 ∧ c9 pts a.1 b.1 ∧ aZ ts pts[a.1]! a.2 ≠ 2) a
def Na (ts : List Int) (pts : List Pnt) (a : Nat × Nat) : Prop := Clo (fun a => a.2 < ts.length ∧ (a.1 = 0 ∨ ∃ i,c9 pts i a.1 ∧ aZ ts pts[i]! a.2 = 2 ∧ aT pts[i]! ≠ a.2)) (fun a b => b.2 = a.2 ∧ c9 pts a.1 b.1 ∧ aT pts[a.1]! ≠ a.2) a
def Nd (ts : List Int) (pts : List Pnt) (a : Nat × Nat) : Prop := Clo (fun a => a.1 < pts.length ∧ a.2 < ts.length ∧ aZ ts pts[a.1]! a.2 ≠ 0) (fun a b => b.2 = a.2 ∧ c9 pts b.1 a.1 ∧ aT pts[b.1]! ≠ a.2) a
def Lv (ts : List Int) (pts : List Pnt) (i v : Nat) : Prop := ∃ k,c9 pts i k ∧ Nd ts pts (k,v)
def bU (x : Pnt) : Bool := decide (x.op = 4) || decide (x.op = 5)
def FO (ts : List Int) (pts : List Pnt) (a : Nat × Nat × Nat) : Prop := Clo (fun a => c9 pts a.2.2 a.1 ∧ bU pts[a.2.2]! = true ∧ aT pts[a.2.2]! = a.2.1)
 (fun a b => b.2.2 = a.2.2 ∧ c9 pts a.1 b.1 ∧ ((aT pts[a.1]! ≠ b.2.1 ∧ b.2.1 = a.2.1 ∧ aZ ts pts[a.1]! a.2.1 ≠ 2) ∨
  (aT pts[a.1]! = b.2.1 ∧ (a.2.1 : Int) = pts[a.1]!.y ∧ ((bU pts[a.1]! = true ∧ iM ts[a.2.1]! = true) ∨ pts[a.1]!.op = 3)))) a
def Gr (ts : List Int) (pts : List Pnt) (a : Nat × Nat) : Prop := Clo (fun a => c9 pts a.2 a.1 ∧ bU pts[a.2]! = true)
 (fun a b => b.2 = a.2 ∧ c9 pts a.1 b.1 ∧ aZ ts pts[a.1]! pts[a.2]!.y ≠ 2 ∧ aT pts[a.1]! ≠ pts[a.2]!.y) a
def eF (f : Nat → Bool) : Nat → Nat
 | 0 => 0
 | n + 1 => eF f n ||| (if f n then 2 ^ n else 0)
theorem eE (f:Nat → Bool):∀ (n i:Nat),(eF f n).testBit i = (decide (i < n) && f i)
 | 0,i => by simp [eF]
 | n + 1, i => by
  rw [eF,Nat.testBit_or,eE f n i]
  by_cases h : i = n
  ·subst h;cases hf : f i <;> simp [Nat.testBit_two_pow_self]
  ·have : ((if f n = true then 2 ^ n else 0).testBit i) = false := by
    split
    ·exact Nat.testBit_two_pow_of_ne (fun e => h e.symm)
    ·simp
   rw [this,Bool.or_false]
   congr 1
   simp only [decide_eq_decide]; omega
theorem tC (f:Nat → Bool) (n:Nat):eF f n < 2 ^ n:=by
 apply Nat.lt_pow_two_of_testBit
 intro i hi
 rw [eE]; simp;omega
theorem dP {f:Nat → Bool}{n:Nat}(h:n ≤ 62):Sm (eF f n) := ⟨Nat.lt_of_lt_of_le (tC f n) (Nat.pow_le_pow_right (by decide) h)⟩
theorem iE {σ ι:Type}(stp:σ × Bool → ι → σ × Bool) (C:ι → σ → Prop) (μ:σ → Nat) (S:σ → Prop) :
  ∀ (L : List ι),(∀ s b i,i ∈ L → S s → S (stp (s,b) i).1 ∧ ((stp (s,b) i = (s,b) ∧ C i s) ∨ ((stp (s,b) i).2 = true ∧ μ (stp (s,b) i).1 < μ s))) →
  ∀ s b,S s → S (L.foldl stp (s,b)).1 ∧ ((L.foldl stp (s,b) = (s,b) ∧ ∀ i ∈ L,C i s) ∨ ((L.foldl stp (s,b)).2 = true ∧ μ (L.foldl stp (s,b)).1 < μ s))
 | [],_,s,b,hs => ⟨hs,.inl ⟨rfl,by simp⟩⟩
 | i :: L, h, s, b, hs => by
  have h1 := h s b i (List.mem_cons_self) hs
  simp only [List.foldl_cons]
  generalize stp (s,b) i = r at h1
  obtain ⟨s',b'⟩ := r
  have h2 := iE stp C μ S L (fun s b j hj => h s b j (List.mem_cons_of_mem _ hj)) s' b' h1.1
  refine ⟨h2.1,?_⟩
  rcases h1.2 with ⟨e1,c1⟩ | ⟨e1,c1⟩
  ·cases e1
   rcases h2.2 with ⟨e2,c2⟩ | ⟨e2,c2⟩
   ·exact .inl ⟨e2,fun j hj => by rcases List.mem_cons.1 hj with rfl|hj;exact c1;exact c2 j hj⟩
   ·exact .inr ⟨e2,c2⟩
  ·rcases h2.2 with ⟨e2, c2⟩ | ⟨e2, c2⟩
   ·rw [e2]; exact .inr ⟨e1,c1⟩
   ·exact .inr ⟨e2,by dsimp only at c1;omega⟩
theorem dL {σ ι:Type}[Inhabited ι] (f:σ → ι → σ) (L:List ι) (s:σ) (k:Nat) (h:k < L.length):(L.take (k + 1)).foldl f s = f ((L.take k).foldl f s) L[k]!:=by
 rw [bQ _ _ h,List.foldl_append]; rfl
def eI (l : List Nat) : Nat := l.foldr (· + ·) 0
theorem mS (g:Nat → Nat):∀ (l:List Nat) (k:Nat) (x:Nat),k < l.length → eI ((l.set k x).map g) + g l[k]! = eI (l.map g) + g x
 | a :: l,0,x,_ => by simp [eI]; omega
 | a :: l, k + 1, x, h => by
  have := mS g l k x (by simpa using h)
  have e : (a :: l)[k + 1]! = l[k]! := by rw [bF _ _ h,bF _ _ (by simpa using h)]; rfl
  rw [e]
  simp only [List.set_cons_succ,List.map_cons,eI,List.foldr_cons] at this ⊢
  omega
abbrev aG (ts : List Int) (bd : List Stmt) (pts : List Pnt) : AV := .iptr [sl cI ts,sl aB bd,sl b0 pts]
def HT (t : Int) : Bool := decide (t = 2) || decide (t = 4)
def wS (ts : List Int) (x : Pnt) (us : List Int) : Nat := eF (fun v => decide (aZ ts x v ∈ us)) ts.length
def fY (x : Pnt) : Nat := if 0 ≤ aT x then 2 ^ (aT x).toNat else 0
def gC (ts : List Int) (x : Pnt) (A : Nat) : Nat := l7 A (wS ts x [2]) ||| fY x
theorem pG {x:Pnt}(h:aT x < 62):Sm (fY x):=by
 unfold fY;split
 ·exact Sm.pow (by omega)
 ·infer_instance
theorem qH (ts:List Int) (x:Pnt) (v:Int):0 ≤ aZ ts x v ∧ aZ ts x v ≤ 3:=by
 unfold aZ;grind
theorem WG.set {ts:List Int}{pts:List Pnt}(h:WG ts pts) (i:Nat) (hi:i < pts.length):aT pts[i]! < ts.length ∧ (0 ≤ aT pts[i]! ∨ aT pts[i]! = -1):=by
 have := h.x i hi
 have := h.tl
 unfold aT;split <;> omega
theorem oO (f:Nat → Bool) (k:Nat) (h:f k = true):eF f k ||| 2 ^ k = eF f (k + 1) := by rw [eF,if_pos h]
theorem lC (f:Nat → Bool) (k:Nat) (h:f k = false):eF f k = eF f (k + 1) := by rw [eF,if_neg (by simp [h]),Nat.or_zero]
theorem jL {i:Nat}{hs:List (Nat × Option (List AV))}{id:Nat}{cs:List AV}(h:aP ((i,none) :: hs) id = some cs):aP hs id = some cs ∧ id ≠ i:=by
 rw [b7] at h
 split at h
 ·cases h
 ·rename_i e;exact ⟨h,e⟩
theorem Le.frzD {ts:List (Nat × AV)}{hs:List (Nat × Option (List AV))}{n:Nat}{z0:Lo}{d i m e:Nat}{cs:List AV}(hd:lk ts d = some (.own i 0 m e)) (hi:aP hs i = some cs) :
  Le ⟨ts,hs,n,z0⟩ ⟨(d,.imm m cs) :: ts,(i,none) :: hs,n,z0⟩ := by
 rintro C a w ⟨h0,ι,g,gh⟩
 obtain ⟨gh',car⟩ := gh.less (F' := Fn n z0) (H' := aP ((i,none) :: hs)) (fun id c h => (jL h).1) (fun _ h => h)
 refine ⟨h0,ι,⟨g.df,g.sz,fun t av ht => ?_⟩,gh'⟩
 rw [show lk (⟨(d,.imm m cs) :: ts,(i,none) :: hs,n,z0⟩ : AS).ts t = lk ((d,.imm m cs) :: ts) t from rfl,iY] at ht
 split at ht
 ·rename_i et
  subst et
  cases ht
  obtain ⟨y,hy,hr⟩ := g.tm t _ hd
  refine ⟨y,hy,?_⟩
  simp only [Rd] at hr ⊢
  rcases hr with ⟨_,h2,a',h3⟩ | ⟨b,β,c,h1,h2,h3,h4⟩
  ·subst h2;exact ⟨a',0,h3,.inl rfl⟩
  ·refine ⟨_, c, h2, ?_⟩
   rcases Nat.eq_zero_or_pos m with h5|h5
   ·exact .inl h5
   ·refine .inr ⟨b, β + 0, h3, rfl, ?_⟩
    rcases gh.obj i cs hi with ⟨q1,q2⟩ | ⟨b',β',arr,e',q1,q2,q3,q4,q5,q6⟩
    ·rw [h1] at q1;cases q1
    ·rw [h1] at q1; cases q1
     refine .inr ⟨?_,RdC.carryB car _ _ _ (fun o x hx => hx) q4⟩
     rintro (h | ⟨id',cs',β',r1,r2⟩)
     ·exact q5 h
     ·exact (jL r1).2 (gh.sep _ _ _ _ _ _ _ (jL r1).1 hi r2 h1)
 ·obtain ⟨y, hy, hr⟩ := g.tm t av ht
  exact ⟨y,hy,Rd.carry car _ _ hr⟩
theorem Le.frzP {ts:List (Nat × AV)}{hs:List (Nat × Option (List AV))}{n:Nat}{z0:Lo}{d i:Nat}{cs:List AV}(hd:lk ts d = some (.optr i 0)) (hi:aP hs i = some cs) :
  Le ⟨ts,hs,n,z0⟩ ⟨(d,.iptr cs) :: ts,(i,none) :: hs,n,z0⟩ := by
 rintro C a w ⟨h0,ι,g,gh⟩
 obtain ⟨gh',car⟩ := gh.less (F' := Fn n z0) (H' := aP ((i,none) :: hs)) (fun id c h => (jL h).1) (fun _ h => h)
 refine ⟨h0,ι,⟨g.df,g.sz,fun t av ht => ?_⟩,gh'⟩
 rw [show lk (⟨(d,.iptr cs) :: ts,(i,none) :: hs,n,z0⟩ : AS).ts t = lk ((d,.iptr cs) :: ts) t from rfl,iY] at ht
 split at ht
 ·rename_i et
  subst et
  cases ht
  obtain ⟨y,hy,hr⟩ := g.tm t _ hd
  refine ⟨y,hy,?_⟩
  simp only [Rd] at hr ⊢
  obtain ⟨b,β,h1,h2⟩ := hr
  refine ⟨b,β + 0,h2,?_⟩
  rcases gh.obj i cs hi with ⟨q1,q2⟩ | ⟨b',β',arr,e',q1,q2,q3,q4,q5,q6⟩
  ·rw [h1] at q1;cases q1
  ·rw [h1] at q1; cases q1
   refine .inr ⟨?_,RdC.carryB car _ _ _ (fun o x hx => hx) q4⟩
   rintro (h | ⟨id',cs',β',r1,r2⟩)
   ·exact q5 h
   ·exact (jL r1).2 (gh.sep _ _ _ _ _ _ _ (jL r1).1 hi r2 h1)
 ·obtain ⟨y, hy, hr⟩ := g.tm t av ht
  exact ⟨y,hy,Rd.carry car _ _ hr⟩
theorem Le.nilOwn {ts:List (Nat × AV)}{hs:List (Nat × Option (List AV))}{n:Nat}{z0:Lo}{d:Nat}(e:Nat) (hd:lk ts d = some (.v (.slice none 0 0))) (hn:n < aX) :
  Le ⟨ts,hs,n,z0⟩ ⟨(d,.own n 0 0 e) :: ts,(n,some []) :: hs,n + 1,z0⟩ := by
 rintro C a w ⟨h0,ι,g,gh⟩
 have hf : ι n = none := gh.fresh n ⟨Nat.le_refl _,.inl hn⟩
 let ι' : Pl := dA ι n (some none)
 have hne : ∀ id p, ι id = some p → ι' id = some p := by
  intro id p h
  have : id ≠ n := by rintro rfl;rw [hf] at h;cases h
  simp only [ι',a8 _ _ this,h]
 have hback : ∀ id b β, ι' id = some (some (b, β)) → id ≠ n ∧ ι id = some (some (b, β)) := by
  intro id b β h
  by_cases q : id = n
  ·subst q;simp only [ι',upd_same] at h;cases h
  ·simp only [ι',a8 _ _ q] at h;exact ⟨q,h⟩
 have hH : ∀ id cs, id ≠ n → aP ((n, some []) :: hs) id = some cs → aP hs id = some cs := by
  intro id cs q h;rw [b7,if_neg q] at h;exact h
 have car : Carry w (aD C.X ι (aP hs)) ι w (aD C.X ι' (aP ((n, some []) :: hs))) ι' := by
  refine ⟨fun b o x h1 h2 => ⟨?_,h2⟩,hne,fun _ => Nat.le_refl _⟩
  rintro (h | ⟨id,cs,β,q1,q2⟩)
  ·exact h1 (.inl h)
  ·obtain ⟨r1, r2⟩ := hback _ _ _ q2
   exact h1 (.inr ⟨id,cs,β,hH _ _ r1 q1,r2⟩)
 refine ⟨h0,ι',⟨g.df,g.sz,fun t av ht => ?_⟩,⟨fun id cs h => ?_,fun id id' cs cs' b β β' q1 q2 q3 q4 => ?_,gh.fr,fun id p h => hne _ _ (gh.ex _ _ h),fun id h => ?_⟩⟩
 ·rw [show lk (⟨(d, .own n 0 0 e) :: ts, (n, some []) :: hs, n + 1, z0⟩ : AS).ts t = lk ((d, .own n 0 0 e) :: ts) t from rfl, iY] at ht
  split at ht
  ·rename_i et
   subst et
   cases ht
   obtain ⟨y,hy,hr⟩ := g.tm t _ hd
   refine ⟨y,hy,?_⟩
   simp only [Rd] at hr ⊢
   exact .inl ⟨⟨none,by simp only [ι',upd_same]⟩,trivial,none,hr⟩
  ·obtain ⟨y, hy, hr⟩ := g.tm t av ht
   exact ⟨y,hy,Rd.carry car _ _ hr⟩
 ·by_cases q : id = n
  ·subst q
   simp only [b7,if_true,Option.some.injEq] at h
   exact .inl ⟨by simp only [ι',upd_same],h.symm⟩
  ·rcases gh.obj id cs (hH _ _ q h) with ⟨r1, r2⟩ | ⟨b, β, arr, e', r1, r2, r3, r4, r5, r6⟩
   ·exact .inl ⟨hne _ _ r1,r2⟩
   ·exact .inr ⟨b,β,arr,e',hne _ _ r1,r2,r3,RdC.carryB car _ _ _ (fun o x hx => hx) r4,r5,r6⟩
 ·obtain ⟨r1, r2⟩ := hback _ _ _ q3
  obtain ⟨r3,r4⟩ := hback _ _ _ q4
  exact gh.sep _ _ _ _ _ _ _ (hH _ _ r1 q1) (hH _ _ r3 q2) r2 r4
 ·have h1 : n + 1 ≤ id := h.1
  have h2 : id < aX ∨ z0.fb ≤ id := h.2
  have q : id ≠ n := by omega
  simp only [ι',a8 _ _ q]
  exact gh.fresh id ⟨by show n ≤ id;omega,h2⟩
variable {P : Program} {N : Nat} {Q : Exit → AS → Prop} {all : Array Oper} {rest : List Oper} {ts : List (Nat × AV)} {hs : List (Nat × Option (List AV))} {n : Nat} {z0 : Lo} {md : Md}
variable {d : Nat} {ty : TypeId} {pos : String} {af : Array Edge}
section
theorem fM {l:List Oper}{s s':AS}(h:RW P N all Q .txt l s') (k:Le s s'):RW P N all Q .txt l s := fun C a w hN g => h C a w hN (k C a w g)
theorem Le.trans {s s' s'':AS}(h:Le s s') (k:Le s' s''):Le s s'' := fun C a w g => k C a w (h C a w g)
theorem Le.frzTop {ts:List (Nat × AV)}{hs:List (Nat × Option (List AV))}{n:Nat}{z0:Lo}{d i m e:Nat}{cs:List AV} :
  Le ⟨(d,.own i 0 m e) :: ts,(i,some cs) :: hs,n,z0⟩ ⟨(d,.imm m cs) :: ts,(i,none) :: hs,n,z0⟩ := by
 refine (Le.frzD (d := d) (i := i) (m := m) (e := e) (cs := cs) (by simp [iY]) (by simp [b7])).trans ?_
 refine Le.of (fun t av h => ?_) (fun j c h => ?_) (Nat.le_refl _) rfl
 ·show lk ((d, .imm m cs) :: (d, .own i 0 m e) :: ts) t = _
  have h' : lk ((d,.imm m cs) :: ts) t = some av := h
  simp only [iY] at h' ⊢
  split
  ·rename_i q;rw [if_pos q] at h'; exact h'
  ·rename_i q;rw [if_neg q] at h'; exact h'
 ·show aP ((i, none) :: (i, some cs) :: hs) j = _
  have h' : aP ((i,none) :: hs) j = some c := h
  simp only [b7] at h' ⊢
  split
  ·rename_i q;rw [if_pos q] at h'; exact h'
  ·rename_i q;rw [if_neg q] at h'; exact h'
theorem aY {t el len e:Nat}{parts:Array (Nat × Operand)}{zs:List Value}{l:List (Nat × AV)}{cs:List AV}[ht:SlT P t el] [he:SzT P el e] [hz:ZrT P el zs] (hze:zs.length = e) (hsm:Nat.ble (len * e) 16777216 = true)
  (hl : evs (lk ts) parts.toList = some l) (hfl : hU (fun i => some (i * e,e)) ((List.replicate len (zs.map .v)).flatten) l = some cs) (hM : Nat.blt n aX = true) (hN : Nat.blt d N = true) (kk : RW P N all Q .txt rest ⟨(d,.imm len cs) :: ts,(n,none) :: hs,n + 1,z0⟩) :
  RW P N all Q .txt (⟨some d,.buildSlice t len parts,ty,pos,af,none⟩ :: rest) ⟨ts,hs,n,z0⟩ :=
 lY hze hsm hl hfl hM hN (md' := .txt) (fM kk Le.frzTop)
end
theorem Le.mv {ts:List (Nat × AV)}{hs:List (Nat × Option (List AV))}{n:Nat}{z0:Lo}{d i o m e:Nat}{cs:List AV}(hd:lk ts d = some (.own i o m e)) (hi:aP hs i = some cs) (hn:n < aX) :
  Le ⟨ts,hs,n,z0⟩ ⟨(d,.own n o m e) :: ts,(n,some cs) :: (i,none) :: hs,n + 1,z0⟩ := by
 rintro C a w ⟨h0,ι,g,gh⟩
 have hf : ι n = none := gh.fresh n ⟨Nat.le_refl _,.inl hn⟩
 have hin : ∃ p, ι i = some p := by
  rcases gh.obj i cs hi with ⟨r1,_⟩ | ⟨b,β,_,_,r1,_⟩
  ·exact ⟨_,r1⟩
  ·exact ⟨_,r1⟩
 obtain ⟨pi,hpi⟩ := hin
 have hni : n ≠ i := by rintro rfl;rw [hf] at hpi;cases hpi
 let ι' : Pl := dA ι n (ι i)
 have hnn : ι' n = ι i := by simp only [ι',upd_same]
 have hne' : ∀ id,id ≠ n → ι' id = ι id := fun id h => by simp only [ι',a8 _ _ h]
 have hne : ∀ id p, ι id = some p → ι' id = some p := by
  intro id p h
  have : id ≠ n := by rintro rfl;rw [hf] at h;cases h
  rw [hne' _ this,h]
 -- the objects of the new state, under their old ids
 let σ : Nat → Nat := fun id => if id = n then i else id
 have hσ : ∀ id c, aP ((n, some cs) :: (i, none) :: hs) id = some c → aP hs (σ id) = some c ∧ ι' id = ι (σ id) ∧ (id = n ∨ id ≠ i) := by
  intro id c h
  simp only [b7] at h
  by_cases q : id = n
  ·subst q
   rw [if_pos rfl] at h;cases h
   exact ⟨by simp only [σ,if_true]; exact hi,by simp only [σ,if_true]; exact hnn,.inl rfl⟩
  ·rw [if_neg q] at h
   by_cases q2 : id = i
   ·rw [if_pos q2] at h;cases h
   ·rw [if_neg q2] at h
    exact ⟨by simp only [σ,if_neg q]; exact h,by simp only [σ,if_neg q]; exact hne' _ q,.inr q2⟩
 have car : Carry w (aD C.X ι (aP hs)) ι w (aD C.X ι' (aP ((n, some cs) :: (i, none) :: hs))) ι' := by
  refine ⟨fun b o x h1 h2 => ⟨?_,h2⟩,hne,fun _ => Nat.le_refl _⟩
  rintro (h | ⟨id,c,β,q1,q2⟩)
  ·exact h1 (.inl h)
  ·obtain ⟨r1, r2, _⟩ := hσ id c q1
   exact h1 (.inr ⟨σ id,c,β,r1,by rw [← r2]; exact q2⟩)
 refine ⟨h0,ι',⟨g.df,g.sz,fun t av ht => ?_⟩,⟨fun id c h => ?_,fun id id' c c' b β β' q1 q2 q3 q4 => ?_,gh.fr,fun id p h => hne _ _ (gh.ex _ _ h),fun id h => ?_⟩⟩
 ·have ht' : lk ((d, .own n o m e) :: ts) t = some av := ht
  rw [iY] at ht'
  split at ht'
  ·rename_i et
   subst et
   cases ht'
   obtain ⟨y,hy,hr⟩ := g.tm t _ hd
   refine ⟨y,hy,?_⟩
   have hr' := Rd.carry car _ _ hr
   simp only [Rd,hnn] at hr' ⊢
   rw [hne' i (fun h => hni h.symm)] at hr'
   exact hr'
  ·obtain ⟨y, hy, hr⟩ := g.tm t av ht'
   exact ⟨y,hy,Rd.carry car _ _ hr⟩
 ·obtain ⟨r1, r2, _⟩ := hσ id c h
  rcases gh.obj _ c r1 with ⟨s1,s2⟩ | ⟨b,β,arr,e',s1,s2,s3,s4,s5,s6⟩
  ·exact .inl ⟨by rw [r2]; exact s1,s2⟩
  ·exact .inr ⟨b,β,arr,e',by rw [r2]; exact s1,s2,s3,RdC.carryB car _ _ _ (fun o x hx => hx) s4,s5,s6⟩
 ·obtain ⟨r1, r2, r3⟩ := hσ id c q1
  obtain ⟨t1,t2,t3⟩ := hσ id' c' q2
  have := gh.sep _ _ _ _ _ _ _ r1 t1 (by rw [← r2]; exact q3) (by rw [← t2]; exact q4)
  simp only [σ] at this
  split at this <;> split at this
  ·omega
  ·rename_i u1 u2; rcases t3 with t3 | t3
   ·exact absurd t3 u2
   ·exact absurd this.symm t3
  ·rename_i u1 u2; rcases r3 with r3 | r3
   ·exact absurd r3 u1
   ·exact absurd this r3
  ·exact this
 ·have h1 : n + 1 ≤ id := h.1
  have h2 : id < aX ∨ z0.fb ≤ id := h.2
  rw [hne' id (by omega)]
  exact gh.fresh id ⟨by show n ≤ id;omega,h2⟩
theorem Le.slot {ts:List (Nat × AV)}{hs:List (Nat × Option (List AV))}{n:Nat}{z0:Lo}{d:Nat}{v v':AV}(hd:lk ts d = some v) (h:∀ (w:World) (bad:Nat → Prop) (ι:Pl) (y:Value),Rd w bad ι v y → Rd w bad ι v' y) :
  Le ⟨ts,hs,n,z0⟩ ⟨(d,v') :: ts,hs,n,z0⟩ := by
 rintro C a w ⟨h0,ι,g,gh⟩
 refine ⟨h0,ι,⟨g.df,g.sz,fun t av ht => ?_⟩,gh⟩
 have ht' : lk ((d,v') :: ts) t = some av := ht
 rw [iY] at ht'
 split at ht'
 ·rename_i et
  subst et
  cases ht'
  obtain ⟨y,hy,hr⟩ := g.tm t _ hd
  exact ⟨y,hy,h _ _ _ _ hr⟩
 ·exact g.tm t av ht'
theorem Le.nilImm {ts:List (Nat × AV)}{hs:List (Nat × Option (List AV))}{n:Nat}{z0:Lo}{d:Nat}(hd:lk ts d = some (.v (.slice none 0 0))):Le ⟨ts,hs,n,z0⟩ ⟨(d,.imm 0 []) :: ts,hs,n,z0⟩ :=
 Le.slot hd fun w bad ι y h => kR (av := .v (.slice none 0 0)) h
theorem sX {α:Type}{f:α → List AV}{hs:List (Nat × Option (List AV))}{i:Nat}(h:aP hs i = some []):aP hs i = some (flat f []) := h
abbrev mI (a s : Nat) : Nat := a ||| s
abbrev Ij (a s : Nat) : Nat := a &&& s
def jY (op : Nat → Nat → Nat) (s0 : Nat) (s : List Nat × Bool) (k : Nat) : List Nat × Bool :=
 if op s.1[k]! s0 ≠ s.1[k]! then (s.1.set k (op s.1[k]! s0),true) else s
def rC (pts : List Pnt) (i : Nat) : List Nat := pts[i]!.next.map (·.toNat)
def tX (op : Nat → Nat → Nat) (F : Nat → Nat → Nat) (pts : List Pnt) (s : List Nat × Bool) (i : Nat) : List Nat × Bool := (rC pts i).foldl (jY op (F i s.1[i]!)) s
def uX (op : Nat → Nat → Nat) (F : Nat → Nat → Nat) (pts : List Pnt) (s : List Nat × Bool) : List Nat × Bool := (List.range pts.length).foldl (tX op F pts) s
theorem cR {α:Type}[Inhabited α] (l:List α) (k i:Nat) (x:α) (h:k < l.length):(l.set k x)[i]! = if i = k then x else l[i]!:=by
 by_cases e : i = k
 ·subst e;rw [if_pos rfl,bF _ _ (by simpa using h),List.getElem_set_self]
 ·rw [if_neg e]
  simp only [List.getElem!_eq_getElem?_getD,List.getElem?_set_ne (Ne.symm e)]
theorem mQ {ts:List Int}{pts:List Pnt}(w:WG ts pts){i k:Nat}(hi:i < pts.length):k ∈ rC pts i ↔ c9 pts i k:=by
 unfold rC c9
 rw [List.mem_map]
 constructor
 ·rintro ⟨z, hz, rfl⟩
  have := w.nx i hi z hz
  exact ⟨hi,by rw [Int.toNat_of_nonneg this.1]; exact hz⟩
 ·rintro ⟨_,h⟩; exact ⟨_,h,rfl⟩
theorem cX {ts:List Int}{pts:List Pnt}(w:WG ts pts){i k:Nat}(h:c9 pts i k):k < pts.length:=by
 have := w.nx i h.1 _ h.2;omega
structure Flow (op : Nat → Nat → Nat) (F : Nat → Nat → Nat) (pts : List Pnt) (g : Nat → Nat) (Pp : Nat → Nat → Prop) : Prop where
 snd : ∀ i k A B,c9 pts i k → Pp i A → Pp k B → Pp k (op B (F i A))
 dec : ∀ i k A B,c9 pts i k → Pp i A → Pp k B → op B (F i A) ≠ B → g (op B (F i A)) < g B
def SG (pts : List Pnt) (Pp : Nat → Nat → Prop) (l : List Nat) : Prop := l.length = pts.length ∧ ∀ i,i < pts.length → Pp i l[i]!
theorem DI {op:Nat → Nat → Nat}{F:Nat → Nat → Nat}{pts:List Pnt}{g:Nat → Nat}{Pp:Nat → Nat → Prop}(f:Flow op F pts g Pp){i k A:Nat}(hA:Pp i A) (e:c9 pts i k) (hk:k < pts.length) (s:List Nat) (b:Bool) (h:SG pts Pp s) :
  SG pts Pp (jY op (F i A) (s,b) k).1 ∧ ((jY op (F i A) (s,b) k = (s,b) ∧ op s[k]! (F i A) = s[k]!) ∨ ((jY op (F i A) (s,b) k).2 = true ∧ eI ((jY op (F i A) (s,b) k).1.map g) < eI (s.map g))) := by
 unfold jY
 dsimp only
 have hks : k < s.length := by rw [h.1]; exact hk
 by_cases hc : op s[k]! (F i A) ≠ s[k]!
 ·rw [if_pos hc]
  refine ⟨⟨by simp [h.1],fun j hj => ?_⟩,.inr ⟨rfl,?_⟩⟩
  ·dsimp only
   rw [cR _ _ _ _ hks]
   split
   ·rename_i q;subst q;exact f.snd _ _ _ _ e hA (h.2 j hj)
   ·exact h.2 j hj
  ·have := mS g s k (op s[k]! (F i A)) hks
   have h2 := f.dec i k A s[k]! e hA (h.2 k hk) hc
   dsimp only;omega
 ·rw [if_neg hc]
  exact ⟨h,.inl ⟨rfl,by simpa using hc⟩⟩
theorem Em {ts:List Int}{op:Nat → Nat → Nat}{F:Nat → Nat → Nat}{pts:List Pnt}{g:Nat → Nat}{Pp:Nat → Nat → Prop}(w:WG ts pts) (f:Flow op F pts g Pp) (s:List Nat) (b:Bool) (i:Nat) (hi:i < pts.length) (h:SG pts Pp s) :
  SG pts Pp (tX op F pts (s,b) i).1 ∧ ((tX op F pts (s,b) i = (s,b) ∧ ∀ k,c9 pts i k → op s[k]! (F i s[i]!) = s[k]!) ∨ ((tX op F pts (s,b) i).2 = true ∧ eI ((tX op F pts (s,b) i).1.map g) < eI (s.map g))) := by
 have hA := h.2 i hi
 have := iE (jY op (F i s[i]!)) (fun k l => op l[k]! (F i s[i]!) = l[k]!) (fun l => eI (l.map g)) (SG pts Pp) (rC pts i)
  (fun s' b' k hk hs => by
   have e := (mQ w hi).1 hk
   exact DI f hA e (cX w e) s' b' hs) s b h
 refine ⟨this.1,?_⟩
 rcases this.2 with ⟨e1,e2⟩|h2
 ·exact .inl ⟨e1,fun k e => e2 k ((mQ w hi).2 e)⟩
 ·exact .inr h2
def j4 (op : Nat → Nat → Nat) (F : Nat → Nat → Nat) (pts : List Pnt) (s : List Nat) : Prop := ∀ i k,c9 pts i k → op s[k]! (F i s[i]!) = s[k]!
theorem pV {ts:List Int}{op:Nat → Nat → Nat}{F:Nat → Nat → Nat}{pts:List Pnt}{g:Nat → Nat}{Pp:Nat → Nat → Prop}(w:WG ts pts) (f:Flow op F pts g Pp) (s:List Nat) (b:Bool) (h:SG pts Pp s) :
  SG pts Pp (uX op F pts (s,b)).1 ∧ ((uX op F pts (s,b) = (s,b) ∧ j4 op F pts s) ∨ ((uX op F pts (s,b)).2 = true ∧ eI ((uX op F pts (s,b)).1.map g) < eI (s.map g))) := by
 have := iE (tX op F pts) (fun i l => ∀ k, c9 pts i k → op l[k]! (F i l[i]!) = l[k]!) (fun l => eI (l.map g)) (SG pts Pp) (List.range pts.length)
  (fun s' b' i hi hs => Em w f s' b' i (List.mem_range.1 hi) hs) s b h
 refine ⟨this.1,?_⟩
 rcases this.2 with ⟨e1,e2⟩|h2
 ·exact .inl ⟨e1,fun i k e => e2 i (List.mem_range.2 e.1) k e⟩
 ·exact .inr h2
theorem kX {a b:Nat}(h:a ||| b ≠ a):a < a ||| b:=by
 have := @Nat.left_le_or a b;omega
theorem uA {a b:Nat}(h:a &&& b ≠ a):a &&& b < a:=by
 have := @Nat.and_le_left a b;omega
theorem eW {a b:Nat}:a ||| b = a ↔ ∀ v,b.testBit v = true → a.testBit v = true:=by
 constructor
 ·intro h v hv;rw [← h,Nat.testBit_or,hv]; simp
 ·intro h
  apply Nat.eq_of_testBit_eq;intro v
  rw [Nat.testBit_or]
  cases hb : b.testBit v with
  | false => simp
  | true => rw [h v hb]; rfl
theorem pZ {a b:Nat}:a &&& b = a ↔ ∀ v,a.testBit v = true → b.testBit v = true:=by
 constructor
 ·intro h v hv;rw [← h,Nat.testBit_and,Bool.and_eq_true] at hv;exact hv.2
 ·intro h
  apply Nat.eq_of_testBit_eq;intro v
  rw [Nat.testBit_and]
  cases ha : a.testBit v with
  | false => simp
  | true => rw [h v ha]; rfl
theorem cM {a n:Nat}(h:a < 2 ^ n){v:Nat}(hv:a.testBit v = true):v < n:=by
 rcases Nat.lt_or_ge v n with h1|h1
 ·exact h1
 ·rw [Nat.testBit_lt_two_pow (Nat.lt_of_lt_of_le h (Nat.pow_le_pow_right (by decide) h1))] at hv;cases hv
theorem xH {ts:List Int}{pts:List Pnt}(w:WG ts pts){i:Nat}(hi:i < pts.length){v:Nat}(h:aZ ts pts[i]! v ≠ 0):v < ts.length:=by
 have h1 := w.x i hi
 have h2 := w.y i hi
 unfold aZ at h
 grind
theorem cJ {ts:List Int}{x:Pnt}{us:List Int}{v:Nat}:(wS ts x us).testBit v = (decide (v < ts.length) && decide (aZ ts x v ∈ us)) := eE _ _ _
theorem fE {x:Pnt}{v:Nat}(h:aT x < 62):(fY x).testBit v = decide (aT x = (v:Int)):=by
 unfold fY
 split
 ·rename_i h0
  by_cases e : v = (aT x).toNat
  ·subst e;rw [Nat.testBit_two_pow_self]; simp;omega
  ·rw [Nat.testBit_two_pow_of_ne (fun h => e h.symm)]; simp;omega
 ·simp;omega
theorem dK {ts:List Int}{x:Pnt}{A v:Nat}(h:aT x < 62):(gC ts x A).testBit v = ((A.testBit v && !(decide (v < ts.length) && decide (aZ ts x v = 2))) || decide (aT x = (v:Int))):=by
 unfold gC
 rw [Nat.testBit_or,bZ,cJ,fE h]
 simp
def oT (ts : List Int) (pts : List Pnt) (A : List Nat) : Prop := A.length = pts.length ∧ ∀ i,i < pts.length → ∀ v,A[i]!.testBit v = true ↔ Mb ts pts (i,v)
def oJ (ts : List Int) (pts : List Pnt) (A : List Nat) : Prop := A.length = pts.length ∧ ∀ i,i < pts.length → ∀ v,A[i]!.testBit v = true ↔ v < ts.length ∧ ¬ Na ts pts (i,v)
theorem jK {n:Nat}{A B:List Nat}(h1:A.length = n) (h2:B.length = n) (h:∀ i,i < n → ∀ v,A[i]!.testBit v = true ↔ B[i]!.testBit v = true):A = B:=by
 apply List.ext_getElem (by omega)
 intro i g1 g2
 have := h i (by omega)
 rw [bF _ _ g1,bF _ _ g2] at this
 apply Nat.eq_of_testBit_eq
 intro v
 rw [Bool.eq_iff_iff]; exact this v
def Jz (ts : List Int) (pts : List Pnt) (i A : Nat) : Prop := A < 2 ^ ts.length ∧ ∀ v,A.testBit v = true → Mb ts pts (i,v)
def Jv (ts : List Int) (pts : List Pnt) (i A : Nat) : Prop := A < 2 ^ ts.length ∧ ∀ v,v < ts.length → A.testBit v = false → Na ts pts (i,v)
theorem o9 {ts:List Int}{pts:List Pnt}(w:WG ts pts){i:Nat}(hi:i < pts.length){A:Nat}(hA:A < 2 ^ ts.length):gC ts pts[i]! A < 2 ^ ts.length:=by
 apply Nat.lt_pow_two_of_testBit
 intro v hv
 have hs := (w.set i hi).1
 have htl := w.tl
 rw [dK (by omega)]
 have : A.testBit v = false := by
  cases h : A.testBit v with
  | false => rfl
  | true => have := cM hA h;omega
 rw [this,Bool.false_and,Bool.false_or,decide_eq_false_iff_not]; omega
theorem JZ {ts:List Int}{pts:List Pnt}(w:WG ts pts):Flow (fun a s => a ||| s) (fun i A => gC ts pts[i]! A) pts (fun a => 2 ^ ts.length - a) (Jz ts pts):=by
 refine ⟨fun i k A B e hA hB => ⟨Nat.or_lt_two_pow hB.1 (o9 w e.1 hA.1),fun v hv => ?_⟩,fun i k A B e hA hB hne => ?_⟩
 ·have hs := (w.set i e.1).1
  have htl := w.tl
  rw [Nat.testBit_or,Bool.or_eq_true] at hv
  rcases hv with hv|hv
  ·exact hB.2 v hv
  ·rw [dK (by omega)] at hv
   simp only [Bool.or_eq_true,Bool.and_eq_true,Bool.not_eq_true',Bool.and_eq_false_iff,decide_eq_true_eq,decide_eq_false_iff_not] at hv
   rcases hv with ⟨h1,h2⟩|h1
   ·refine .step (hA.2 v h1) ⟨rfl, e, ?_⟩
    have := cM hA.1 h1
    rcases h2 with h2|h2
    ·omega
    ·exact h2
   ·exact .base ⟨i,e,h1⟩
 ·have h1 := kX hne
  have h2 := Nat.or_lt_two_pow hB.1 (o9 w e.1 hA.1)
  omega
theorem Jy {ts:List Int}{pts:List Pnt}(w:WG ts pts):Flow (fun a s => a &&& s) (fun i A => gC ts pts[i]! A) pts (fun a => a) (Jv ts pts):=by
 refine ⟨fun i k A B e hA hB => ⟨Nat.lt_of_le_of_lt Nat.and_le_left hB.1,fun v hv hf => ?_⟩,fun i k A B e hA hB hne => uA hne⟩
 have hs := (w.set i e.1).1
 have htl := w.tl
 rw [Nat.testBit_and,Bool.and_eq_false_iff] at hf
 rcases hf with hf|hf
 ·exact hB.2 v hv hf
 ·rw [dK (by omega)] at hf
  simp only [Bool.or_eq_false_iff,Bool.and_eq_false_iff,Bool.not_eq_false',Bool.and_eq_true,decide_eq_true_eq,decide_eq_false_iff_not] at hf
  obtain ⟨h1|h1,h2⟩ := hf
  ·exact .step (hA.2 v hv h1) ⟨rfl,e,h2⟩
  ·exact .base ⟨hv,.inr ⟨i,e,h1.2,h2⟩⟩
theorem Eo {ts:List Int}{pts:List Pnt}(w:WG ts pts){A:List Nat}(h:SG pts (Jz ts pts) A) (hc:j4 (fun a s => a ||| s) (fun i A => gC ts pts[i]! A) pts A):oT ts pts A:=by
 refine ⟨h.1,fun i hi v => ⟨fun hv => (h.2 i hi).2 v hv,fun hm => ?_⟩⟩
 have htl := w.tl
 have key : ∀ a : Nat × Nat, Mb ts pts a → A[a.1]!.testBit a.2 = true := by
  refine Clo.sub (T := fun a : Nat × Nat => A[a.1]!.testBit a.2 = true) ?_ ?_
  ·rintro ⟨k, v⟩ ⟨i, e, hs⟩
   have h1 := (w.set i e.1).1
   refine eW.1 (hc i k e) v ?_
   rw [dK (by omega)]; simp only [Bool.or_eq_true,decide_eq_true_eq]; exact .inr hs
  ·rintro ⟨i, v⟩ ⟨k, v'⟩ ht ⟨rfl, e, hu⟩
   have h1 := (w.set i e.1).1
   refine eW.1 (hc i k e) v' ?_
   dsimp only at ht hu
   rw [dK (by omega),ht]; grind
 exact key (i,v) hm
theorem FA {ts:List Int}{pts:List Pnt}(w:WG ts pts){A:List Nat}(h:SG pts (Jv ts pts) A) (h0:A[0]! = 0) (hc:j4 (fun a s => a &&& s) (fun i A => gC ts pts[i]! A) pts A):oJ ts pts A:=by
 refine ⟨h.1,fun i hi v => ?_⟩
 have htl := w.tl
 have key : ∀ a : Nat × Nat, Na ts pts a → A[a.1]!.testBit a.2 = false := by
  refine Clo.sub (T := fun a : Nat × Nat => A[a.1]!.testBit a.2 = false) ?_ ?_
  ·rintro ⟨k, v⟩ ⟨hv, h1 | ⟨i, e, hu, hs⟩⟩
   ·dsimp only at h1 ⊢; rw [h1,h0]; simp
   ·have h1 := (w.set i e.1).1
    dsimp only at hu hs hv ⊢
    cases hq : A[k]!.testBit v with
    | false => rfl
    | true =>
     have := pZ.1 (hc i k e) v hq
     rw [dK (by omega)] at this
     grind
  ·rintro ⟨i, v⟩ ⟨k, v'⟩ ht ⟨rfl, e, hs⟩
   have h1 := (w.set i e.1).1
   dsimp only at ht hs ⊢
   cases hq : A[k]!.testBit v' with
   | false => rfl
   | true =>
    have := pZ.1 (hc i k e) v' hq
    rw [dK (by omega),ht] at this
    grind
 constructor
 ·intro hv
  refine ⟨cM (h.2 i hi).1 hv,fun hn => ?_⟩
  have := key (i,v) hn
  dsimp only at this;rw [hv] at this;cases this
 ·rintro ⟨hv, hn⟩
  cases hq : A[i]!.testBit v with
  | true => rfl
  | false => exact absurd ((h.2 i hi).2 v hv hq) hn
theorem qR {ts:List Int}{pts:List Pnt}{Pp:Nat → Nat → Prop}{l:List Nat}(h:SG pts Pp l) (hp:∀ i A,Pp i A → A < 2 ^ ts.length) (htl:ts.length ≤ 6) (z:Nat):Sm l[z]!:=by
 by_cases hz : z < pts.length
 ·exact ⟨Nat.lt_of_lt_of_le (hp _ _ (h.2 z hz)) (Nat.pow_le_pow_right (by decide) (by omega))⟩
 ·rw [getElem!_neg _ _ (by rw [h.1]; exact hz)]; exact ⟨by decide⟩
theorem vJ {pts:List Pnt}{i j:Nat}(h:j < pts[i]!.next.length):(rC pts i)[j]! = (pts[i]!.next[j]!).toNat:=by
 unfold rC
 rw [bF _ _ (by simpa using h),bF _ _ h,List.getElem_map]
theorem dD {σ:Type}(f:σ → Nat → σ) (s:σ) (k:Nat):(List.range (k + 1)).foldl f s = f ((List.range k).foldl f s) k:=by
 rw [List.range_succ,List.foldl_append]; rfl
theorem gX {op:Nat → Nat → Nat}{s0:Nat}{pts:List Pnt}{i j:Nat}(h:j < pts[i]!.next.length) (s:List Nat × Bool) :
  ((rC pts i).take (j + 1)).foldl (jY op s0) s = jY op s0 (((rC pts i).take j).foldl (jY op s0) s) (pts[i]!.next[j]!).toNat := by
 have hl : j < (rC pts i).length := by unfold rC;simpa using h
 rw [dL _ _ _ _ hl,vJ h]
theorem j8 (pts:List Pnt) (i:Nat):(rC pts i).length = pts[i]!.next.length := by unfold rC;simp
theorem tH {op:Nat → Nat → Nat}{s0:Nat}{s:List Nat}{b:Bool}{k:Nat}(h:op s[k]! s0 ≠ s[k]!):jY op s0 (s,b) k = (s.set k (op s[k]! s0),true) := by unfold jY;rw [if_pos h]
theorem vI {op:Nat → Nat → Nat}{s0:Nat}{s:List Nat}{b:Bool}{k:Nat}(h:op s[k]! s0 = s[k]!):jY op s0 (s,b) k = (s,b) := by unfold jY;rw [if_neg (fun hc => hc h)]
theorem uC {op:Nat → Nat → Nat}{F:Nat → Nat → Nat}{pts:List Pnt}{g:Nat → Nat}{Pp:Nat → Nat → Prop}(f:Flow op F pts g Pp){ts:List Int}(w:WG ts pts){i k A:Nat}(hA:Pp i A) (e:c9 pts i k){s:List Nat}(h:SG pts Pp s):SG pts Pp (s.set k (op s[k]! (F i A))):=by
 refine ⟨by simp [h.1],fun j hj => ?_⟩
 rw [cR _ _ _ _ (by rw [h.1]; exact cX w e)]
 split
 ·rename_i q;subst q;exact f.snd _ _ _ _ e hA (h.2 j hj)
 ·exact h.2 j hj
theorem Aj {pts:List Pnt}{Pp:Nat → Nat → Prop}(h:∀ i,i < pts.length → Pp i 0):SG pts Pp (List.replicate pts.length 0):=by
 refine ⟨by simp,fun i hi => ?_⟩
 rw [bF _ _ (by simpa using hi),List.getElem_replicate]; exact h i hi
theorem C4 {ts:List Int}{pts:List Pnt}{A B:List Nat}(h1:oT ts pts A) (h2:oT ts pts B):A = B := jK h1.1 h2.1 fun i hi v => (h1.2 i hi v).trans (h2.2 i hi v).symm
theorem CE {ts:List Int}{pts:List Pnt}{A B:List Nat}(h1:oJ ts pts A) (h2:oJ ts pts B):A = B := jK h1.1 h2.1 fun i hi v => (h1.2 i hi v).trans (h2.2 i hi v).symm
theorem wW {l:List Nat}{k x:Nat}(h:l[k]! = x) (hk:k < l.length):l.set k x = l:=by
 subst h;rw [bF _ _ hk]; exact List.set_getElem_self hk
theorem Hd {n k a:Nat}(h:k < n):(List.replicate k a ++ List.replicate (n - k) 0).set k a = List.replicate (k + 1) a ++ List.replicate (n - (k + 1)) 0:=by
 rw [show n - k = (n - (k + 1)) + 1 by omega,List.replicate_succ]
 have := pH (List.replicate k a) 0 a (List.replicate (n - (k + 1)) 0)
 rw [List.length_replicate] at this
 rw [this,List.replicate_succ']; simp
theorem EL {ts:List Int}{pts:List Pnt}(w:WG ts pts){u:List Nat}(hu:u = List.replicate pts.length (2 ^ ts.length - 1)):SG pts (Jv ts pts) (u.set 0 0) ∧ (u.set 0 0)[0]! = 0:=by
 have hp0 := w.p0
 have h0 : 0 < u.length := by rw [hu]; simpa using hp0
 have hp : 0 < 2 ^ ts.length := Nat.pow_pos (by decide)
 refine ⟨⟨by simp [hu],fun i hi => ?_⟩,by rw [cR _ _ _ _ h0,if_pos rfl]⟩
 rw [cR _ _ _ _ h0]
 split
 ·rename_i e;subst e;exact ⟨hp,fun v hv _ => .base ⟨hv,.inl rfl⟩⟩
 ·rw [hu, bF _ _ (by simpa using hi), List.getElem_replicate]
  exact ⟨by omega,fun v hv hf => by rw [Nat.testBit_two_pow_sub_one] at hf;simp at hf;omega⟩
def GB (pts : List Pnt) (B : List Nat) (i : Nat) : Nat := (rC pts i).foldl (fun a k => a ||| B[k]!) 0
def oB (ts : List Int) (pts : List Pnt) (B : List Nat) (i : Nat) : Nat := wS ts pts[i]! [1,2,3] ||| l7 (GB pts B i) (fY pts[i]!)
theorem k9 (B:List Nat) (v:Nat):∀ (L:List Nat) (a:Nat),(L.foldl (fun a k => a ||| B[k]!) a).testBit v = true ↔ a.testBit v = true ∨ ∃ k ∈ L,B[k]!.testBit v = true
 | [],a => by simp
 | k :: L, a => by
  rw [List.foldl_cons,k9 B v L,Nat.testBit_or,Bool.or_eq_true]
  simp only [List.mem_cons,exists_eq_or_imp]
  grind
theorem oH {ts:List Int}{pts:List Pnt}(w:WG ts pts){B:List Nat}{i v:Nat}(hi:i < pts.length):(GB pts B i).testBit v = true ↔ ∃ k,c9 pts i k ∧ B[k]!.testBit v = true:=by
 unfold GB
 rw [k9]
 simp only [Nat.zero_testBit,Bool.false_eq_true,false_or,mQ w hi]
theorem iR {ts:List Int}{pts:List Pnt}(w:WG ts pts){B:List Nat}{i v:Nat}(hi:i < pts.length):(oB ts pts B i).testBit v = true ↔ (v < ts.length ∧ aZ ts pts[i]! v ≠ 0) ∨ (aT pts[i]! ≠ v ∧ ∃ k,c9 pts i k ∧ B[k]!.testBit v = true):=by
 have hs := (w.set i hi).1
 have htl := w.tl
 have hb := qH ts pts[i]! v
 unfold oB
 rw [Nat.testBit_or,bZ,cJ,fE (by omega)]
 simp only [Bool.or_eq_true,Bool.and_eq_true,decide_eq_true_eq,Bool.not_eq_true',decide_eq_false_iff_not,oH w hi,List.mem_cons,List.not_mem_nil,or_false]
 have : (aZ ts pts[i]! (v : Int) = 1 ∨ aZ ts pts[i]! (v : Int) = 2 ∨ aZ ts pts[i]! (v : Int) = 3) ↔ aZ ts pts[i]! (v : Int) ≠ 0 := by omega
 rw [this]
 constructor
 ·rintro (h | ⟨h1, h2⟩)
  ·exact .inl h
  ·exact .inr ⟨h2,h1⟩
 ·rintro (h | ⟨h1, h2⟩)
  ·exact .inl h
  ·exact .inr ⟨h2,h1⟩
def Kg (ts : List Int) (pts : List Pnt) (i A : Nat) : Prop := A < 2 ^ ts.length ∧ ∀ v,A.testBit v = true → Nd ts pts (i,v)
def qN (ts : List Int) (pts : List Pnt) (A : List Nat) : Prop := A.length = pts.length ∧ ∀ i,i < pts.length → ∀ v,A[i]!.testBit v = true ↔ Nd ts pts (i,v)
theorem C5 {ts:List Int}{pts:List Pnt}{A B:List Nat}(h1:qN ts pts A) (h2:qN ts pts B):A = B := jK h1.1 h2.1 fun i hi v => (h1.2 i hi v).trans (h2.2 i hi v).symm
def kF (ts : List Int) (pts : List Pnt) (s : List Nat × Bool) (i : Nat) : List Nat × Bool := if oB ts pts s.1 i ≠ s.1[i]! then (s.1.set i (oB ts pts s.1 i),true) else s
def SN (ts : List Int) (pts : List Pnt) (l : List Nat) : Prop := SG pts (Kg ts pts) l ∧ ∀ i,i < pts.length → ∀ v,l[i]!.testBit v = true → (oB ts pts l i).testBit v = true
theorem vX {ts:List Int}{pts:List Pnt}(w:WG ts pts){l l':List Nat}{i:Nat}(hi:i < pts.length) (h:∀ k,k < pts.length → ∀ v,l[k]!.testBit v = true → l'[k]!.testBit v = true){v:Nat}(hv:(oB ts pts l i).testBit v = true):(oB ts pts l' i).testBit v = true:=by
 rw [iR w hi] at hv ⊢
 rcases hv with hv | ⟨h1,k,e,h2⟩
 ·exact .inl hv
 ·exact .inr ⟨h1,k,e,h k (cX w e) v h2⟩
theorem Ha {ts:List Int}{pts:List Pnt}(w:WG ts pts){l:List Nat}{i:Nat}(hi:i < pts.length) (h:SG pts (Kg ts pts) l):Kg ts pts i (oB ts pts l i):=by
 have key : ∀ v, (oB ts pts l i).testBit v = true → v < ts.length ∧ Nd ts pts (i, v) := by
  intro v hv
  rw [iR w hi] at hv
  rcases hv with ⟨h1,h2⟩ | ⟨h1,k,e,h2⟩
  ·exact ⟨h1,.base ⟨hi,h1,h2⟩⟩
  ·have hk := h.2 k (cX w e)
   exact ⟨cM hk.1 h2,.step (hk.2 v h2) ⟨rfl,e,h1⟩⟩
 refine ⟨?_,fun v hv => (key v hv).2⟩
 apply Nat.lt_pow_two_of_testBit
 intro v hv
 cases hq : (oB ts pts l i).testBit v with
 | false => rfl
 | true => have := (key v hq).1;omega
theorem rY {ts:List Int}{pts:List Pnt}(w:WG ts pts) (s:List Nat) (b:Bool) (i:Nat) (hi:i < pts.length) (h:SN ts pts s) :
  SN ts pts (kF ts pts (s,b) i).1 ∧ ((kF ts pts (s,b) i = (s,b) ∧ oB ts pts s i = s[i]!) ∨ ((kF ts pts (s,b) i).2 = true ∧ eI ((kF ts pts (s,b) i).1.map (fun a => 2 ^ ts.length - a)) < eI (s.map (fun a => 2 ^ ts.length - a)))) := by
 unfold kF
 dsimp only
 have his : i < s.length := by rw [h.1.1]; exact hi
 by_cases hc : oB ts pts s i ≠ s[i]!
 ·rw [if_pos hc]
  have hp := Ha w hi h.1
  have hge : ∀ k, k < pts.length → ∀ v, s[k]!.testBit v = true → ((s.set i (oB ts pts s i))[k]!).testBit v = true := by
   intro k hk v hv
   rw [cR _ _ _ _ his]
   split
   ·rename_i q;subst q;exact h.2 _ hk v hv
   ·exact hv
  refine ⟨⟨⟨by simp [h.1.1],fun j hj => ?_⟩,fun j hj v hv => ?_⟩,.inr ⟨rfl,?_⟩⟩
  ·rw [cR _ _ _ _ his]
   split
   ·rename_i q;subst q;exact hp
   ·exact h.1.2 j hj
  ·rw [cR _ _ _ _ his] at hv
   split at hv
   ·rename_i q;subst q;exact vX w hj hge hv
   ·exact vX w hj hge (h.2 j hj v hv)
  ·have h1 := mS (fun a => 2 ^ ts.length - a) s i (oB ts pts s i) his
   have h2 : s[i]! ||| oB ts pts s i = oB ts pts s i := by rw [Nat.or_comm]; exact eW.2 (h.2 i hi)
   have h3 : s[i]! < oB ts pts s i := by
    have : s[i]! ≤ oB ts pts s i := by rw [← h2]; exact Nat.left_le_or
    omega
   have h4 := hp.1
   dsimp only at h1 ⊢; omega
 ·rw [if_neg hc]
  exact ⟨h,.inl ⟨rfl,by simpa using hc⟩⟩
def xR (ts : List Int) (pts : List Pnt) (s : List Nat × Bool) : List Nat × Bool := (List.range pts.length).reverse.foldl (kF ts pts) s
theorem C8 {ts:List Int}{pts:List Pnt}(w:WG ts pts) (s:List Nat) (b:Bool) (h:SN ts pts s) :
  SN ts pts (xR ts pts (s,b)).1 ∧ ((xR ts pts (s,b) = (s,b) ∧ ∀ i,i < pts.length → oB ts pts s i = s[i]!) ∨ ((xR ts pts (s,b)).2 = true ∧ eI ((xR ts pts (s,b)).1.map (fun a => 2 ^ ts.length - a)) < eI (s.map (fun a => 2 ^ ts.length - a)))) := by
 have := iE (kF ts pts) (fun i l => oB ts pts l i = l[i]!) (fun l => eI (l.map (fun a => 2 ^ ts.length - a))) (SN ts pts) (List.range pts.length).reverse
  (fun s' b' i hi hs => rY w s' b' i (List.mem_range.1 (List.mem_reverse.1 hi)) hs) s b h
 refine ⟨this.1,?_⟩
 rcases this.2 with ⟨e1,e2⟩|h2
 ·exact .inl ⟨e1,fun i hi => e2 i (List.mem_reverse.2 (List.mem_range.2 hi))⟩
 ·exact .inr h2
theorem Ed {ts:List Int}{pts:List Pnt}(w:WG ts pts){A:List Nat}(h:SN ts pts A) (hc:∀ i,i < pts.length → oB ts pts A i = A[i]!):qN ts pts A:=by
 refine ⟨h.1.1,fun i hi v => ⟨fun hv => (h.1.2 i hi).2 v hv,fun hm => ?_⟩⟩
 have key : ∀ a : Nat × Nat, Nd ts pts a → A[a.1]!.testBit a.2 = true := by
  refine Clo.sub (T := fun a : Nat × Nat => A[a.1]!.testBit a.2 = true) ?_ ?_
  ·rintro ⟨i, v⟩ ⟨h1, h2, h3⟩
   dsimp only at h1 h2 h3 ⊢
   rw [← hc i h1,iR w h1]; exact .inl ⟨h2,h3⟩
  ·rintro ⟨n, v⟩ ⟨i, v'⟩ ht ⟨rfl, e, hs⟩
   dsimp only at ht hs e ⊢
   rw [← hc i e.1,iR w e.1]; exact .inr ⟨hs,n,e,ht⟩
 exact key (i,v) hm
def oQ (ts : List Int) (pts : List Pnt) (A : List Nat) : Prop := A.length = pts.length ∧ ∀ i,i < pts.length → ∀ v,A[i]!.testBit v = true ↔ Lv ts pts i v
theorem sS {ts:List Int}{pts:List Pnt}{A B:List Nat}(h1:oQ ts pts A) (h2:oQ ts pts B):A = B := jK h1.1 h2.1 fun i hi v => (h1.2 i hi v).trans (h2.2 i hi v).symm
theorem wO {ts:List Int}{pts:List Pnt}(w:WG ts pts){A:List Nat}(h:qN ts pts A):oQ ts pts ((List.range pts.length).map (GB pts A)):=by
 refine ⟨by simp,fun i hi v => ?_⟩
 rw [bF _ _ (by simpa using hi),List.getElem_map,List.getElem_range,oH w hi]
 constructor
 ·rintro ⟨k,e,hk⟩; exact ⟨k,e,(h.2 k (cX w e) v).1 hk⟩
 ·rintro ⟨k,e,hk⟩; exact ⟨k,e,(h.2 k (cX w e) v).2 hk⟩
theorem wH {n k:Nat}(h:k < n):(List.range n).reverse[k]! = n - 1 - k:=by
 rw [bF _ _ (by simpa using h),List.getElem_reverse]; simp
theorem Bx {ts:List Int}{pts:List Pnt}{s:List Nat}{b:Bool}{i:Nat}(h:oB ts pts s i ≠ s[i]!):kF ts pts (s,b) i = (s.set i (oB ts pts s i),true) := by unfold kF;rw [if_pos h]
theorem HI {ts:List Int}{pts:List Pnt}{s:List Nat}{b:Bool}{i:Nat}(h:oB ts pts s i = s[i]!):kF ts pts (s,b) i = (s,b) := by unfold kF;rw [if_neg (fun hc => hc h)]
theorem Ii {ts:List Int}{pts:List Pnt}:SN ts pts (List.replicate pts.length 0):=by
 refine ⟨Aj fun i hi => ⟨Nat.pow_pos (by decide),fun v h => by simp at h⟩,fun i hi v h => ?_⟩
 rw [bF _ _ (by simpa using hi),List.getElem_replicate] at h;simp at h
theorem oS {ts:List Int}{pts:List Pnt}(w:WG ts pts){a:Nat × Nat}(h:Nd ts pts a):a.2 < ts.length:=by
 induction h with
 | base h => exact h.2.1
 | step _ r ih => rw [r.1]; exact ih
instance (a b : List AV) [h : Pur a] [h2 : Pur b] : Pur (a ++ b):=⟨by rw [gQ,h.pf,h2.pf]; rfl⟩
instance (fn : Go.Fn) (f c : List AV) [h : Pur f] [h2 : Pur c] : PurV (.clos fn f c):=⟨by simp only [AV.pur,h.pf,h2.pf,Bool.and_self]⟩
def cN (n : Nat) : List AV := [.v (.int .i64 (n : Int))]
def cW (n : Nat) : List AV := [.v (.int .u64 (n : Int))]
instance : FlT cN 1:=⟨fun _ => rfl⟩
instance : FlT cW 1:=⟨fun _ => rfl⟩
instance : FE cN (fun n => [.v (.int .i64 (n : Int))]):=⟨fun _ => rfl⟩
instance : FE cW (fun n => [.v (.int .u64 (n : Int))]):=⟨fun _ => rfl⟩
instance (n : Nat) : Pur (cN n):=⟨rfl⟩
instance (n : Nat) : Pur (cW n):=⟨rfl⟩
theorem Jj {xs:List Nat}{k:Nat}{a:Nat}(hk:k < xs.length):iH (flat cN xs) (0 + k * 1) [.v (.int .i64 (a:Int))] = flat cN (xs.set k a) := gH hk rfl
theorem BE {xs:List Nat}{k:Nat}{a:Nat}(hk:k < xs.length):iH (flat cW xs) (0 + k * 1) [.v (.int .u64 (a:Int))] = flat cW (xs.set k a) := gH hk rfl
theorem Hx {xs:List Nat}{m:Nat}{a:Nat}(hm:m = xs.length):((flat cN xs).drop 0).take (m * 1) ++ [.v (.int .i64 (a:Int))] = flat cN (xs ++ [a]) := iJ hm rfl
theorem Aw {α:Type}{f:α → List AV}{x:α}{l:List AV}{m:Nat}(h:l = f x):(List.replicate m l).flatten = flat f (List.replicate m x):=by
 subst h;simp [flat,List.flatMap_def]
theorem IN {m:Nat}:(List.replicate m ([Value.int .i64 0].map AV.v)).flatten = flat cN (List.replicate m 0) := Aw rfl
theorem Gz {m:Nat}:(List.replicate m ([Value.int .u64 0].map AV.v)).flatten = flat cW (List.replicate m 0) := Aw rfl
theorem BF {m:Nat}:(List.replicate m ([Value.bool false].map AV.v)).flatten = flat cB (List.replicate m false) := Aw rfl
section
theorem lZ {t el e by' m:Nat}{x y:Operand}{zs:List Value}{cs:List AV}{k k':IntKind}[ht:SlT P t el] [he:SzT P el e] [hb:ByT P el by'] [hz:ZrT P el zs]
  (hx : ev (lk ts) x = some (.v (.int k (m : Int)))) (hy : ev (lk ts) y = some (.v (.int k' (m : Int)))) (hze : zs.length = e) (hsm : by' * m ≤ 281474976710656) (hmx : m ≤ 9223372036854775807)
  (hcs : (List.replicate m (zs.map .v)).flatten = cs) (hM : Nat.blt n aX = true) (hN : Nat.blt d N = true) {md' : Md} [hmd : MdA md (rO x ++ rO y) [.inr n,.inl d] md'] (kk : RW P N all Q md' rest ⟨(d,.own n 0 m e) :: ts,(n,some cs) :: hs,n + 1,z0⟩) :
  RW P N all Q md (⟨some d,.makeSlice t x y,ty,pos,af,none⟩ :: rest) ⟨ts,hs,n,z0⟩ := by
 subst hcs
 exact tR hx hy hze hsm hmx hM hN (md' := md') (hmd := hmd) kk
end
theorem CP {H:Nat → Option (List AV)}:iN H [] = some [] := rfl
theorem zM {H:Nat → Option (List AV)}{c x:AV}{cs l:List AV}(h1:iA H c = some x) (h2:iN H cs = some l):iN H (c :: cs) = some (x :: l):=by
 simp only [iN,h1,h2]
theorem BX {H:Nat → Option (List AV)}{i m e:Nat}{cs:List AV}(h:H i = some cs) (hp:Pur cs):iA H (.own i 0 m e) = some (.imm m cs):=by
 simp only [iA,h,Option.bind_some,hp.pf,if_true,List.drop_zero]
theorem G2 {H:Nat → Option (List AV)}{x:Value}:iA H (.v x) = some (.v x) := rfl
theorem AN {H:Nat → Option (List AV)}{cs:List AV}(hp:Pur cs):iA H (.iptr cs) = some (.iptr cs) := by simp only [iA,hp.pf,if_true]
section
theorem EO {k:FuncId}{args:Array Operand}{tys:Array TypeId}{avs avs2:List AV}{r:AV}{md':Md}[hc:CaT P k] (ha:evL (lk ts) args.toList = some avs) (hl:iN (aP hs) avs = some avs2) (h:PC P k avs2 (fun x => x = r)) (hfr:r.free = true) (hN:Nat.blt d N = true)
  (hmd : MdA md (jS args.toList ++ rL avs) [.inl d] md') (kk : RW P N all Q md' rest ⟨(d,r) :: ts,hs,n,z0⟩) : RW P N all Q md (⟨some d,.call ⟨.value (.func k),args,tys⟩,ty,pos,af,none⟩ :: rest) ⟨ts,hs,n,z0⟩ := by
 exact Gc ha hl h hfr hN (hmd := hmd) kk
end
theorem Ce {k:IntKind}[hk:K6 k] (a:Nat) [ha:Sm a]:jE .and k a 1 = some (.int k ((a &&& 1:Nat):Int)) := yE a 1
section
theorem GQ {k:IntKind}{t t':TypeId}{x y:Operand}{a:Nat}(hx:ev (lk ts) x = some (.v (.int k (a:Int)))) (hy:ev (lk ts) y = some (.v (.int k 1))) (hk:K6 k) (ha:Sm a)
  (hN : Nat.blt d N = true) {md' : Md} [hmd : MdA md (rO x ++ rO y) [.inl d] md'] (kk : RW P N all Q md' rest ⟨(d,.v (.int k ((a &&& 1 : Nat) : Int))) :: ts,hs,n,z0⟩) : RW P N all Q md (⟨some d,.binOp .and t x y t',ty,pos,af,none⟩ :: rest) ⟨ts,hs,n,z0⟩ :=
 gP hx hy (.inl rfl) (Ce a) (dS hN) (by rw [hmd.pf]; exact kk)
end
theorem k4 (A v:Nat):((A >>> v &&& 1:Nat):Int) = 1 ↔ A.testBit v = true:=by
 rw [Nat.testBit,Nat.and_comm]
 have : 1 &&& (A >>> v) = (A >>> v) % 2 := by rw [Nat.and_comm,Nat.and_one_is_mod]
 rw [this]
 have := Nat.mod_two_eq_zero_or_one (A >>> v)
 simp only [bne_iff_ne,ne_eq]
 omega
def bB (A : Nat) : List Int := ((List.range 62).filter (A.testBit ·)).map (fun v : Nat => (v : Int))
theorem nU {A k:Nat}(h:∀ v,k ≤ v → A.testBit v = false) (hk:k ≤ 64) (hA:Sm A):bB A = ((List.range k).filter (A.testBit ·)).map (fun v:Nat => (v:Int)):=by
 unfold bB
 congr 1
 have e : ∀ (a b : Nat), (∀ v, a ≤ v → v < a + b → A.testBit v = false) → (List.range (a + b)).filter (A.testBit ·) = (List.range a).filter (A.testBit ·) := by
  intro a b hb
  rw [List.range_add,List.filter_append]
  have : List.filter (A.testBit ·) (List.map (fun x => a + x) (List.range b)) = [] := by
   rw [List.filter_eq_nil_iff]
   intro x hx
   rw [List.mem_map] at hx
   obtain ⟨y,hy,rfl⟩ := hx
   rw [List.mem_range] at hy
   rw [hb _ (by omega) (by omega)]; simp
  rw [this,List.append_nil]
 rcases Nat.le_total k 62 with h1|h1
 ·have := e k (62 - k) (fun v h2 _ => h v h2)
  rwa [show k + (62 - k) = 62 by omega] at this
 ·have := e 62 (k - 62) (fun v h2 _ => Nat.testBit_lt_two_pow (Nat.lt_of_lt_of_le hA.pf (Nat.pow_le_pow_right (by decide) h2)))
  rw [show 62 + (k - 62) = k by omega] at this
  exact this.symm
theorem gW (p:Nat → Bool) (k:Nat):(List.range (k + 1)).filter p = (List.range k).filter p ++ (if p k = true then [k] else []):=by
 rw [List.range_succ,List.filter_append]
 congr 1
 by_cases h : p k = true <;> simp [h]
theorem cD {A:Nat}{z:Int}:z ∈ bB A ↔ ∃ v:Nat,v < 62 ∧ A.testBit v = true ∧ z = v:=by
 unfold bB
 simp only [List.mem_map,List.mem_filter,List.mem_range]
 constructor
 ·rintro ⟨v,⟨h1,h2⟩,rfl⟩; exact ⟨v,h1,h2,rfl⟩
 ·rintro ⟨v,h1,h2,rfl⟩; exact ⟨v,⟨h1,h2⟩,rfl⟩
theorem BG {A k:Nat}(hA:Sm A) (h:0 < ((A >>> k:Nat):Int)):k < 62:=by
 rcases Nat.lt_or_ge k 62 with h1|h1
 ·exact h1
 ·have : A >>> k = 0 := by rw [Nat.shiftRight_eq_div_pow]; exact Nat.div_eq_of_lt (Nat.lt_of_lt_of_le hA.pf (Nat.pow_le_pow_right (by decide) h1))
  rw [this] at h;simp at h
theorem D5 {A k:Nat}(h:((A >>> k:Nat):Int) ≤ 0) (v:Nat) (hv:k ≤ v):A.testBit v = false:=by
 have h0 : A >>> k = 0 := Nat.le_zero.1 (Int.ofNat_le.1 h)
 have : A.testBit v = (A >>> k).testBit (v - k) := by rw [Nat.testBit_shiftRight]; congr 1;omega
 rw [this,h0]; simp
theorem r8 {A k:Nat}{u:List Int}(h:((A >>> k &&& 1:Nat):Int) = 1) (hu:u = ((List.range k).filter (A.testBit ·)).map (fun v:Nat => (v:Int))):u ++ [(k:Int)] = ((List.range (k + 1)).filter (A.testBit ·)).map (fun v:Nat => (v:Int)):=by
 rw [gW,if_pos ((k4 A k).1 h),List.map_append,hu]; rfl
theorem s9 {A k:Nat}{u:List Int}(h:¬ ((A >>> k &&& 1:Nat):Int) = 1) (hu:u = ((List.range k).filter (A.testBit ·)).map (fun v:Nat => (v:Int))):u = ((List.range (k + 1)).filter (A.testBit ·)).map (fun v:Nat => (v:Int)):=by
 rw [gW,if_neg (fun q => h ((k4 A k).2 q)),List.append_nil,hu]
def oZ (pts : List Pnt) (V : Nat) : Nat := eF (fun l => bU pts[l]! && V.testBit (pts[l]!.y.toNat)) pts.length
theorem Du {ts:List Int}{pts:List Pnt}(w:WG ts pts) (V:Nat):Sm (oZ pts V) := dP (by have := w.pl;omega)
theorem fZ {pts:List Pnt}{V l:Nat}:(oZ pts V).testBit l = (decide (l < pts.length) && (bU pts[l]! && V.testBit (pts[l]!.y.toNat))) := eE _ _ _
def Is (pts : List Pnt) (i : Nat) : Nat := if bU pts[i]! = true then 2 ^ i else 0
def vK (ts : List Int) (pts : List Pnt) (i A : Nat) : Nat := l7 A (oZ pts (wS ts pts[i]! [2] ||| fY pts[i]!)) ||| Is pts i
theorem mE {ts:List Int}{pts:List Pnt}(w:WG ts pts){l:Nat}(hl:l < pts.length) (h:bU pts[l]! = true):0 ≤ pts[l]!.y ∧ pts[l]!.y < ts.length ∧ pts[l]!.y.toNat < ts.length ∧ ((pts[l]!.y.toNat:Nat):Int) = pts[l]!.y:=by
 have := w.y l hl
 unfold bU at h
 simp only [Bool.or_eq_true,decide_eq_true_eq] at h
 omega
theorem testBit_lnB {pts:List Pnt}{i l:Nat}:(Is pts i).testBit l = (bU pts[i]! && decide (l = i)):=by
 unfold Is
 split
 ·rename_i h
  by_cases e : l = i
  ·subst e;rw [Nat.testBit_two_pow_self,h]; simp
  ·rw [Nat.testBit_two_pow_of_ne (fun q => e q.symm),h]; simp [e]
 ·rename_i h;rw [Bool.not_eq_true] at h;rw [h]; simp
theorem kN {ts:List Int}{pts:List Pnt}(w:WG ts pts){i A l:Nat}(hi:i < pts.length) (hl:l < pts.length) (hln:bU pts[l]! = true):(vK ts pts i A).testBit l = true ↔ (A.testBit l = true ∧ aZ ts pts[i]! pts[l]!.y ≠ 2 ∧ aT pts[i]! ≠ pts[l]!.y) ∨ (bU pts[i]! = true ∧ l = i):=by
 have hy := mE w hl hln
 have hs := (w.set i hi).1
 have htl := w.tl
 unfold vK
 rw [Nat.testBit_or,bZ,fZ,testBit_lnB,Nat.testBit_or,cJ,fE (by omega),hy.2.2.2,hln]
 simp only [Bool.or_eq_true,Bool.and_eq_true,Bool.not_eq_true',Bool.and_eq_false_iff,Bool.or_eq_false_iff,decide_eq_true_eq,decide_eq_false_iff_not,List.mem_cons,List.not_mem_nil,or_false,Bool.true_eq_false,false_or]
 have := hy.2.2.1
 grind
theorem y7 {ts:List Int}{pts:List Pnt}(w:WG ts pts){i A:Nat}(hi:i < pts.length) (hA:A < 2 ^ pts.length):vK ts pts i A < 2 ^ pts.length:=by
 unfold vK
 refine Nat.or_lt_two_pow (Nat.xor_lt_two_pow hA (Nat.lt_of_le_of_lt Nat.and_le_left hA)) ?_
 unfold Is;split
 ·exact Nat.pow_lt_pow_right (by decide) hi
 ·exact Nat.pow_pos (by decide)
def JE (ts : List Int) (pts : List Pnt) (i A : Nat) : Prop := A < 2 ^ pts.length ∧ ∀ l,A.testBit l = true → Gr ts pts (i,l)
def oL (ts : List Int) (pts : List Pnt) (A : List Nat) : Prop := A.length = pts.length ∧ ∀ i,i < pts.length → ∀ l,A[i]!.testBit l = true ↔ Gr ts pts (i,l)
theorem Cm {ts:List Int}{pts:List Pnt}{A B:List Nat}(h1:oL ts pts A) (h2:oL ts pts B):A = B := jK h1.1 h2.1 fun i hi v => (h1.2 i hi v).trans (h2.2 i hi v).symm
theorem nG {ts:List Int}{pts:List Pnt}{a:Nat × Nat}(h:Gr ts pts a):a.2 < pts.length ∧ bU pts[a.2]! = true:=by
 induction h with
 | base h => exact ⟨h.1.1,h.2⟩
 | step _ r ih => rw [r.1]; exact ih
theorem JV {ts:List Int}{pts:List Pnt}(w:WG ts pts):Flow mI (vK ts pts) pts (fun a => 2 ^ pts.length - a) (JE ts pts):=by
 refine ⟨fun i k A B e hA hB => ⟨Nat.or_lt_two_pow hB.1 (y7 w e.1 hA.1),fun l hl => ?_⟩,fun i k A B e hA hB hne => ?_⟩
 ·rw [Nat.testBit_or, Bool.or_eq_true] at hl
  rcases hl with hl|hl
  ·exact hB.2 l hl
  ·have hln : l < pts.length ∧ bU pts[l]! = true := by
    have h0 := hl
    unfold vK at h0
    rw [Nat.testBit_or,bZ,Bool.or_eq_true,Bool.and_eq_true] at h0
    rcases h0 with h0|h0
    ·exact nG (hA.2 l h0.1)
    ·rw [testBit_lnB, Bool.and_eq_true, decide_eq_true_eq] at h0
     rw [h0.2]; exact ⟨e.1,h0.1⟩
   rw [kN w e.1 hln.1 hln.2] at hl
   rcases hl with ⟨h1,h2,h3⟩ | ⟨h1,rfl⟩
   ·exact .step (hA.2 l h1) ⟨rfl,e,h2,h3⟩
   ·exact .base ⟨e,h1⟩
 ·have h1 := kX hne
  have h2 := Nat.or_lt_two_pow hB.1 (y7 w e.1 hA.1)
  show 2 ^ pts.length - (B ||| vK ts pts i A) < 2 ^ pts.length - B
  omega
theorem DW {ts:List Int}{pts:List Pnt}(w:WG ts pts){A:List Nat}(h:SG pts (JE ts pts) A) (hc:j4 mI (vK ts pts) pts A):oL ts pts A:=by
 refine ⟨h.1,fun i hi l => ⟨fun hl => (h.2 i hi).2 l hl,fun hm => ?_⟩⟩
 have key : ∀ a : Nat × Nat, Gr ts pts a → (A[a.1]!.testBit a.2 = true ∧ a.2 < pts.length ∧ bU pts[a.2]! = true) := by
  refine Clo.sub (T := fun a : Nat × Nat => A[a.1]!.testBit a.2 = true ∧ a.2 < pts.length ∧ bU pts[a.2]! = true) ?_ ?_
  ·rintro ⟨k, l⟩ ⟨e, hl⟩
   dsimp only at e hl ⊢
   refine ⟨eW.1 (hc l k e) l ?_,e.1,hl⟩
   rw [kN w e.1 e.1 hl]; exact .inr ⟨hl,rfl⟩
  ·rintro ⟨i, l⟩ ⟨k, l'⟩ ⟨ht, hl1, hl2⟩ ⟨rfl, e, hu, hs⟩
   dsimp only at ht hl1 hl2 e hu hs ⊢
   refine ⟨eW.1 (hc i k e) l' ?_,hl1,hl2⟩
   rw [kN w e.1 hl1 hl2]; exact .inl ⟨ht,hu,hs⟩
 exact (key (i,l) hm).1
theorem dQ (xs:List Nat):(flat cW xs).length = xs.length := by rw [aK cW (e := 1)]; omega
theorem yG {xs:List Nat}{q:Nat}(h:q < xs.length):(flat cW xs).drop q = .v (.int .u64 ((xs[q]!:Nat):Int)) :: flat cW (xs.drop (q + 1)):=by
 have := fT cW (e := 1) xs q h
 rw [Nat.mul_one] at this;rw [this]; rfl
section
theorem zG {t el z:Nat}{x i:Operand}{xs:List Nat}{k:IntKind}{m:Int}[ht:ArT P t z el] [he:SzT P el 1] [ha:AgT P el false] (hx:ev (lk ts) x = some (.agg (flat cW xs)))
  (hi : ev (lk ts) i = some (.v (.int k m))) (hl : xs.length = z) (hm : 0 ≤ m ∧ m < z) (hN : Nat.blt d N = true) {md' : Md} [hmd : MdA md (rO x ++ rO i) [.inl d] md'] (kk : RW P N all Q md' rest ⟨(d,.v (.int .u64 ((xs[m.toNat]! : Nat) : Int))) :: ts,hs,n,z0⟩) :
  RW P N all Q md (⟨some d,.index t x i,ty,pos,af,none⟩ :: rest) ⟨ts,hs,n,z0⟩ := by
 refine Ch (c := .v (.int .u64 ((xs[m.toNat]! : Nat) : Int))) hx hi ht.pf he.pf ha.pf hm ?_ (dS hN) (by rw [hmd.pf]; exact kk)
 have hlt : m.toNat < xs.length := by omega
 have := congrArg List.head? (yG hlt)
 rw [List.head?_drop] at this
 rw [Nat.mul_one]; exact this
theorem xS {id z:Nat}{t:TypeId}{x:Operand}{xs:List Nat}[ha:AgT P t true] [hz:SzT P t z] (hx:ev (lk ts) x = some (.optr id 0)) (hH:aP hs id = some (flat cW xs)) (hl:xs.length = z) (h0:Nat.blt 0 z = true)
  (hN : Nat.blt d N = true) {md' : Md} [hmd : MdA md (rO x ++ rA (.optr id 0)) [.inl d] md'] (kk : RW P N all Q md' rest ⟨(d,.agg (flat cW xs)) :: ts,hs,n,z0⟩) : RW P N all Q md (⟨some d,.load t x,ty,pos,af,none⟩ :: rest) ⟨ts,hs,n,z0⟩ :=
 m6 (cs := flat cW xs) hx ha.pf hz.pf (by simp only [deref,hH,Option.map_some,List.drop_zero]) (List.take_of_length_le (by rw [dQ,hl]; exact Nat.le_refl _)) (by rw [dQ,hl]) (by have := dS h0;omega) (dS hN) (by rw [hmd.pf]; exact kk)
theorem xW {id z k:Nat}{t:TypeId}{x:Operand}{xs:List Nat}[ha:AgT P t true] [hz:SzT P t z] (hx:ev (lk ts) x = some (.optr id (0 + k * z))) (hH:aP hs id = some (flat cW xs)) (hl:k * z + z ≤ xs.length) (h0:Nat.blt 0 z = true)
  (hN : Nat.blt d N = true) {md' : Md} [hmd : MdA md (rO x ++ rA (.optr id (0 + k * z))) [.inl d] md'] (kk : RW P N all Q md' rest ⟨(d,.agg (flat cW ((xs.drop (k * z)).take z))) :: ts,hs,n,z0⟩) : RW P N all Q md (⟨some d,.load t x,ty,pos,af,none⟩ :: rest) ⟨ts,hs,n,z0⟩ := by
 have e1 : (flat cW xs).drop (0 + k * z) = flat cW (xs.drop (k * z)) := by
  have := eT cW (e := 1) xs (k * z);rw [Nat.mul_one] at this;rw [Nat.zero_add,this]
 have e2 : (flat cW (xs.drop (k * z))).take z = flat cW ((xs.drop (k * z)).take z) := by
  have := eH cW (e := 1) (xs.drop (k * z)) z;rw [Nat.mul_one] at this;exact this
 exact m6 (cs := flat cW (xs.drop (k * z))) hx ha.pf hz.pf (by simp only [deref,hH,Option.map_some]; rw [e1]) e2 (by rw [dQ,List.length_take,List.length_drop]; omega) (by have := dS h0;omega) (dS hN) (by rw [hmd.pf]; exact kk)
theorem Dd {id o q:Nat}{t:TypeId}{x:Operand}{xs:List Nat}[ha:AgT P t false] (hx:ev (lk ts) x = some (.optr id o)) (hH:aP hs id = some (flat cW xs)) (ho:o = q) (hq:q < xs.length)
  (hN : Nat.blt d N = true) {md' : Md} [hmd : MdA md (rO x ++ rA (.optr id o)) [.inl d] md'] (kk : RW P N all Q md' rest ⟨(d,.v (.int .u64 ((xs[q]! : Nat) : Int))) :: ts,hs,n,z0⟩) : RW P N all Q md (⟨some d,.load t x,ty,pos,af,none⟩ :: rest) ⟨ts,hs,n,z0⟩ := by
 subst ho
 exact kT hx ha.pf (by simp only [deref,hH,Option.map_some]; rw [yG hq]) rfl (dS hN) (by rw [hmd.pf]; exact kk)
theorem xT {id z:Nat}{t:TypeId}{x y:Operand}{xs:List Nat}{cs:List AV}[hz:SzT P t z] (hx:ev (lk ts) x = some (.optr id 0)) (hy:ev (lk ts) y = some (.agg (flat cW xs))) (hH:aP hs id = some cs) (hl:xs.length = z) (hc:cs.length = z)
  {md' : Md} [hmd : MdA md (rO x ++ (rO y ++ [.inr id])) [.inr id] md'] (kk : RW P N all Q md' rest ⟨ts,(id,some (flat cW xs)) :: hs,n,z0⟩) : RW P N all Q md (⟨none,.store t x y,ty,pos,af,none⟩ :: rest) ⟨ts,hs,n,z0⟩ :=
 wI (cs' := flat cW xs) hx hy hz.pf rfl (by rw [dQ, hl]) hH (by rw [dQ]; omega) (by
  unfold iH
  rw [List.take_zero,List.nil_append,Nat.zero_add,dQ,hl,List.drop_of_length_le (by omega),List.append_nil]) (by rw [hmd.pf]; exact kk)
theorem Kf {a b:Nat}:0 + a * 6 + b * 1 = a * 6 + b := by omega
theorem Kn {a:Nat}:0 + a * 1 = a := by omega
theorem D9 {xs:List Nat}{k v a:Nat}(hk:k * 6 + v < xs.length):iH (flat cW xs) (0 + k * 6 + v * 1) [.v (.int .u64 (a:Int))] = flat cW (xs.set (k * 6 + v) a):=by
 rw [show 0 + k * 6 + v * 1 = 0 + (k * 6 + v) * 1 by omega]; exact BE hk
theorem mH {T:Nat → Option AV}{H:Nat → Option (List AV)}{a t id z:Nat}{xs:List Nat}[ha:AgT P t true] [hz:SzT P t z] (h1:T a = some (.optr id 0)) (h2:H id = some (flat cW xs)) (hl:xs.length = z) (h0:0 < z) :
  iX P T H [.cell a t] = some [.agg (flat cW xs)] := by
 have e : (flat cW xs).take z = flat cW xs := List.take_of_length_le (by rw [dQ,hl]; exact Nat.le_refl _)
 simp only [iX,Hp,h1,deref,h2,Option.map_some,List.drop_zero,ha.pf,hz.pf,e,dQ,hl]
 rw [if_pos ⟨trivial,by omega⟩]
end
theorem Ds {m:Nat}:(List.replicate m ([Value.int .u64 0,Value.int .u64 0,Value.int .u64 0,Value.int .u64 0,Value.int .u64 0,Value.int .u64 0].map AV.v)).flatten = flat cW (List.replicate (m * 6) 0):=by
 induction m with
 | zero => rfl
 | succ m ih =>
  rw [List.replicate_succ,List.flatten_cons,ih,Nat.succ_mul,Nat.add_comm,← List.replicate_append_replicate,← bC]
  rfl
def mJ (L : List Int) (f : List Nat) : List Nat := L.foldl (fun f v => f.set v.toNat 0) f
def vE (ts : List Int) (pts : List Pnt) (i : Nat) (f : List Nat) : List Nat :=
 let x := pts[i]!
 let u := mJ (bB (wS ts x [2])) f
 if aT x < 0 then u else
  let v := (aT x).toNat
  let u2 := if bU x = true then (u.set v 0).set v (2 ^ i) else u.set v 0
  if (bU x = true ∧ iM ts[x.y.toNat]! = true) ∨ x.op = 3 then u2.set v (u2[v]! ||| f[x.y.toNat]!) else u2
theorem nC:∀ (L:List Int) (f:List Nat),(mJ L f).length = f.length
 | [],f => rfl
 | v :: L,f => by show (mJ L (f.set v.toNat 0)).length = _; rw [nC L]; simp
theorem uL:∀ (L:List Int) (f:List Nat) (q:Nat),(mJ L f)[q]! = if ∃ v ∈ L,v.toNat = q then 0 else f[q]!
 | [],f,q => by simp [mJ]
 | v :: L, f, q => by
  show (mJ L (f.set v.toNat 0))[q]! = _
  rw [uL L]
  by_cases h : ∃ v ∈ L,v.toNat = q
  ·rw [if_pos h,if_pos (by obtain ⟨z,h1,h2⟩ := h;exact ⟨z,List.mem_cons_of_mem _ h1,h2⟩)]
  ·rw [if_neg h]
   by_cases hv : v.toNat = q
   ·rw [if_pos ⟨v, List.mem_cons_self, hv⟩]
    subst hv
    by_cases hq : v.toNat < f.length
    ·rw [cR _ _ _ _ hq,if_pos rfl]
    ·rw [getElem!_neg (f.set v.toNat 0) v.toNat (by simpa using hq)]; rfl
   ·rw [if_neg (by rintro ⟨z, hz, e⟩; rcases List.mem_cons.1 hz with rfl | hz; exact hv e; exact h ⟨z, hz, e⟩)]
    simp only [List.getElem!_eq_getElem?_getD,List.getElem?_set_ne hv]
theorem Gn (ts:List Int) (pts:List Pnt) (i:Nat) (f:List Nat):(vE ts pts i f).length = f.length:=by
 unfold vE
 dsimp only
 split
 ·exact nC _ _
 ·split <;> split <;> simp [nC]
theorem H5 {L:List Int}{f:List Nat}(h:∀ z:Nat,Sm f[z]!) (z:Nat):Sm (mJ L f)[z]!:=by
 rw [uL]; split
 ·infer_instance
 ·exact h z
theorem Ao {f:List Nat}{k a:Nat}(h:∀ z:Nat,Sm f[z]!) (ha:Sm a) (z:Nat):Sm (f.set k a)[z]!:=by
 by_cases hk : k < f.length
 ·rw [cR _ _ _ _ hk]; split
  ·exact ha
  ·exact h z
 ·rw [List.set_eq_of_length_le (by omega)]; exact h z
theorem mT {x:Pnt}(h:bU x = true):x.op = 4 ∨ x.op = 5 := by simpa [bU] using h
theorem B0 {L:List Int}{f:List Nat}{k:Nat}(h:k < L.length):mJ (L.take (k + 1)) f = (mJ (L.take k) f).set (L[k]!).toNat 0:=by
 unfold mJ;rw [dL _ _ _ _ h]
theorem kS {A n:Nat}(h:A < 2 ^ n){k:Nat}(hk:k < (bB A).length):0 ≤ (bB A)[k]! ∧ (bB A)[k]! < n:=by
 obtain ⟨v,h1,h2,h3⟩ := cD.1 (bT _ _ hk)
 have := cM h h2
 omega
theorem jQ (A:Nat):(bB A).length ≤ 62:=by
 unfold bB;rw [List.length_map]; exact Nat.le_trans (List.length_filter_le _ _) (by simp)
def dN (A : List Nat) (i : Nat) : List Nat := (A.drop (i * 6)).take 6
theorem eR {A:List Nat}{i v n:Nat}(hA:A.length = n * 6) (hi:i < n) (hv:v < 6):(dN A i)[v]! = A[i * 6 + v]!:=by
 have h2 : i * 6 + v < A.length := by omega
 rw [bF _ _ h2,bF _ _ (by unfold dN;simp;omega)]
 unfold dN;simp
theorem fL {A:List Nat}{i n:Nat}(hA:A.length = n * 6) (hi:i < n):(dN A i).length = 6 := by unfold dN;simp;omega
theorem iV {ts:List Int}{pts:List Pnt}(w:WG ts pts){i v l:Nat}{f:List Nat}(hi:i < pts.length) (hv:v < 6) (hf:f.length = 6) :
  (vE ts pts i f)[v]!.testBit l = true ↔ (aT pts[i]! ≠ v ∧ aZ ts pts[i]! v ≠ 2 ∧ f[v]!.testBit l = true) ∨
   (aT pts[i]! = v ∧ ((bU pts[i]! = true ∧ l = i) ∨ (((bU pts[i]! = true ∧ iM ts[pts[i]!.y.toNat]! = true) ∨ pts[i]!.op = 3) ∧ f[pts[i]!.y.toNat]!.testBit l = true))) := by
 have hst := w.set i hi
 have htl := w.tl
 have hclr : ∀ q : Nat, (mJ (bB (wS ts pts[i]! [2])) f)[q]! = if aZ ts pts[i]! q = 2 then 0 else f[q]! := by
  intro q
  rw [uL]
  have : (∃ z ∈ bB (wS ts pts[i]! [2]), z.toNat = q) ↔ aZ ts pts[i]! q = 2 := by
   constructor
   ·rintro ⟨z, hz, rfl⟩
    obtain ⟨q,h1,h2,rfl⟩ := cD.1 hz
    rw [cJ] at h2
    simpa using (by simpa using h2 : q < ts.length ∧ aZ ts pts[i]! (q : Int) = 2).2
   ·intro h
    have := xH w hi (v := q) (by omega)
    exact ⟨(q : Int),cD.2 ⟨q,by omega,by rw [cJ,Bool.and_eq_true,decide_eq_true_eq,decide_eq_true_eq]; exact ⟨this,by simp only [List.mem_singleton]; exact h⟩,rfl⟩,rfl⟩
  by_cases h : aZ ts pts[i]! q = 2
  ·rw [if_pos (this.2 h),if_pos h]
  ·rw [if_neg (fun q => h (this.1 q)),if_neg h]
 have hul : (mJ (bB (wS ts pts[i]! [2])) f).length = 6 := by rw [nC,hf]
 unfold vE
 dsimp only
 generalize mJ (bB (wS ts pts[i]! [2])) f = u at hclr hul
 by_cases hneg : aT pts[i]! < 0
 ·rw [if_pos hneg, hclr]
  by_cases h2 : aZ ts pts[i]! v = 2
  ·rw [if_pos h2, Nat.zero_testBit]
   constructor
   ·intro h;cases h
   ·rintro (h | h)
    ·exact absurd h2 h.2.1
    ·omega
  ·rw [if_neg h2]
   constructor
   ·intro h;exact .inl ⟨by omega,h2,h⟩
   ·rintro (h | h)
    ·exact h.2.2
    ·omega
 ·rw [if_neg hneg]
  have hsv : (aT pts[i]!).toNat < 6 := by omega
  have heq : ∀ q : Nat,q = (aT pts[i]!).toNat ↔ aT pts[i]! = q := by intro q;omega
  -- the slot before the last step
  have hu2 : ∀ q : Nat, (if bU pts[i]! = true then (u.set (aT pts[i]!).toNat 0).set (aT pts[i]!).toNat (2 ^ i) else u.set (aT pts[i]!).toNat 0)[q]! = if q = (aT pts[i]!).toNat then (if bU pts[i]! = true then 2 ^ i else 0) else u[q]! := by
   intro q
   by_cases hl : bU pts[i]! = true
   ·rw [if_pos hl, if_pos hl, cR _ _ _ _ (by rw [List.length_set]; omega), cR _ _ _ _ (by omega)]
    split <;> rfl
   ·rw [if_neg hl,if_neg hl,cR _ _ _ _ (by omega)]
  have hu2l : (if bU pts[i]! = true then (u.set (aT pts[i]!).toNat 0).set (aT pts[i]!).toNat (2 ^ i) else u.set (aT pts[i]!).toNat 0).length = 6 := by split <;> simp [hul]
  generalize (if bU pts[i]! = true then (u.set (aT pts[i]!).toNat 0).set (aT pts[i]!).toNat (2 ^ i) else u.set (aT pts[i]!).toNat 0) = u2 at hu2 hu2l
  have hln : ∀ l : Nat, (if bU pts[i]! = true then 2 ^ i else 0).testBit l = true ↔ bU pts[i]! = true ∧ l = i := by
   intro l
   have := @testBit_lnB pts i l
   unfold Is at this
   rw [this]; simp
  by_cases hc : (bU pts[i]! = true ∧ iM ts[pts[i]!.y.toNat]! = true) ∨ pts[i]!.op = 3
  ·rw [if_pos hc, cR _ _ _ _ (by omega)]
   by_cases hv2 : v = (aT pts[i]!).toNat
   ·have hs := (heq v).1 hv2
    rw [if_pos hv2,← hv2,hu2,if_pos hv2,Nat.testBit_or,Bool.or_eq_true,hln]
    constructor
    ·rintro (h | h)
     ·exact .inr ⟨hs,.inl h⟩
     ·exact .inr ⟨hs,.inr ⟨hc,h⟩⟩
    ·rintro (h | ⟨_, h | h⟩)
     ·exact absurd hs h.1
     ·exact .inl h
     ·exact .inr h.2
   ·have hs : aT pts[i]! ≠ v := fun h => hv2 ((heq v).2 h)
    rw [if_neg hv2,hu2,if_neg hv2,hclr]
    by_cases h2 : aZ ts pts[i]! v = 2
    ·rw [if_pos h2, Nat.zero_testBit]
     constructor
     ·intro h;cases h
     ·rintro (h | h)
      ·exact absurd h2 h.2.1
      ·exact absurd h.1 hs
    ·rw [if_neg h2]
     constructor
     ·intro h;exact .inl ⟨hs,h2,h⟩
     ·rintro (h | h)
      ·exact h.2.2
      ·exact absurd h.1 hs
  ·rw [if_neg hc, hu2]
   by_cases hv2 : v = (aT pts[i]!).toNat
   ·have hs := (heq v).1 hv2
    rw [if_pos hv2,hln]
    constructor
    ·intro h;exact .inr ⟨hs,.inl h⟩
    ·rintro (h | ⟨_, h | h⟩)
     ·exact absurd hs h.1
     ·exact h
     ·exact absurd h.1 hc
   ·have hs : aT pts[i]! ≠ v := fun h => hv2 ((heq v).2 h)
    rw [if_neg hv2,hclr]
    by_cases h2 : aZ ts pts[i]! v = 2
    ·rw [if_pos h2, Nat.zero_testBit]
     constructor
     ·intro h;cases h
     ·rintro (h | h)
      ·exact absurd h2 h.2.1
      ·exact absurd h.1 hs
    ·rw [if_neg h2]
     constructor
     ·intro h;exact .inl ⟨hs,h2,h⟩
     ·rintro (h | h)
      ·exact h.2.2
      ·exact absurd h.1 hs
def JF (ts : List Int) (pts : List Pnt) (i v A : Nat) : Prop := A < 2 ^ pts.length ∧ ∀ l,A.testBit l = true → FO ts pts (i,v,l)
def SF (ts : List Int) (pts : List Pnt) (s : List Nat) : Prop := s.length = pts.length * 6 ∧ ∀ i v,i < pts.length → v < 6 → JF ts pts i v s[i * 6 + v]!
def oI (ts : List Int) (pts : List Pnt) (A : List Nat) : Prop := A.length = pts.length * 6 ∧ ∀ i v,i < pts.length → v < 6 → ∀ l,A[i * 6 + v]!.testBit l = true ↔ FO ts pts (i,v,l)
theorem CZ {ts:List Int}{pts:List Pnt}{A B:List Nat}(h1:oI ts pts A) (h2:oI ts pts B):A = B:=by
 refine jK h1.1 h2.1 fun q hq v => ?_
 have e : q = q / 6 * 6 + q % 6 := by omega
 have h3 : q / 6 < pts.length := by omega
 have h4 : q % 6 < 6 := by omega
 have a := h1.2 (q / 6) (q % 6) h3 h4 v
 have b := h2.2 (q / 6) (q % 6) h3 h4 v
 rw [← e] at a b
 exact a.trans b.symm
def oD (a : List Nat) (k : Nat) (s : List Nat × Bool) (v : Nat) : List Nat × Bool := jY mI a[v]! s (k * 6 + v)
def rK (a : List Nat) (s : List Nat × Bool) (k : Nat) : List Nat × Bool := (List.range 6).foldl (oD a k) s
def yR (ts : List Int) (pts : List Pnt) (s : List Nat × Bool) (i : Nat) : List Nat × Bool := (rC pts i).foldl (rK (vE ts pts i (dN s.1 i))) s
def Fv (ts : List Int) (pts : List Pnt) (s : List Nat × Bool) : List Nat × Bool := (List.range pts.length).foldl (yR ts pts) s
theorem E3 {a b n:Nat}(h1:a < 2 ^ n) (h2:b < 2 ^ n):a ||| b < 2 ^ n := Nat.or_lt_two_pow h1 h2
theorem Bq {ts:List Int}{pts:List Pnt}(w:WG ts pts){s:List Nat}(h:SF ts pts s){i k v:Nat}(e:c9 pts i k) (hv:v < 6):JF ts pts k v (vE ts pts i (dN s i))[v]!:=by
 have hi := e.1
 have hrl := fL h.1 hi
 have htl := w.tl
 have key : ∀ l, (vE ts pts i (dN s i))[v]!.testBit l = true → l < pts.length ∧ FO ts pts (k, v, l) := by
  intro l hl
  rw [iV w hi hv hrl] at hl
  rcases hl with ⟨h1,h2,h3⟩ | ⟨h1,⟨h2,rfl⟩ | ⟨h2,h3⟩⟩
  ·rw [eR h.1 hi hv] at h3
   have hp := h.2 i v hi hv
   exact ⟨cM hp.1 h3,.step (hp.2 l h3) ⟨rfl,e,.inl ⟨h1,rfl,h2⟩⟩⟩
  ·exact ⟨hi,.base ⟨e,h2,h1⟩⟩
  ·have hy : 0 ≤ pts[i]!.y ∧ pts[i]!.y < ts.length := by
    have := w.y i hi
    rcases h2 with ⟨h2,_⟩|h2
    ·have := mT h2;omega
    ·omega
   have hy6 : pts[i]!.y.toNat < 6 := by omega
   rw [eR h.1 hi hy6] at h3
   have hp := h.2 i _ hi hy6
   exact ⟨cM hp.1 h3,.step (hp.2 l h3) ⟨rfl,e,.inr ⟨h1,by show ((pts[i]!.y.toNat : Nat) : Int) = pts[i]!.y;omega,h2⟩⟩⟩
 refine ⟨?_,fun l hl => (key l hl).2⟩
 apply Nat.lt_pow_two_of_testBit
 intro l hl
 cases hq : (vE ts pts i (dN s i))[v]!.testBit l with
 | false => rfl
 | true => have := (key l hq).1;omega
theorem vS {ts:List Int}{pts:List Pnt}{a:List Nat}{k:Nat}(hk:k < pts.length) (ha:∀ v,v < 6 → JF ts pts k v a[v]!) (s:List Nat) (b:Bool) (v:Nat) (hv:v < 6) (h:SF ts pts s) :
  SF ts pts (oD a k (s,b) v).1 ∧ ((oD a k (s,b) v = (s,b) ∧ mI s[k * 6 + v]! a[v]! = s[k * 6 + v]!) ∨ ((oD a k (s,b) v).2 = true ∧ eI ((oD a k (s,b) v).1.map (fun x => 2 ^ pts.length - x)) < eI (s.map (fun x => 2 ^ pts.length - x)))) := by
 unfold oD jY
 dsimp only
 have hq : k * 6 + v < s.length := by rw [h.1]; omega
 have hp := h.2 k v hk hv
 by_cases hc : mI s[k * 6 + v]! a[v]! ≠ s[k * 6 + v]!
 ·rw [if_pos hc]
  have hb := E3 hp.1 (ha v hv).1
  refine ⟨⟨by simp [h.1],fun i u hi hu => ?_⟩,.inr ⟨rfl,?_⟩⟩
  ·dsimp only
   rw [cR _ _ _ _ hq]
   split
   ·rename_i e
    obtain rfl : i = k := by omega
    obtain rfl : u = v := by omega
    refine ⟨hb,fun l hl => ?_⟩
    rw [Nat.testBit_or,Bool.or_eq_true] at hl
    rcases hl with hl|hl
    ·exact hp.2 l hl
    ·exact (ha _ hv).2 l hl
   ·exact h.2 i u hi hu
  ·have h1 := mS (fun x => 2 ^ pts.length - x) s (k * 6 + v) (mI s[k * 6 + v]! a[v]!) hq
   have h2 := kX hc
   dsimp only at h1 ⊢
   have h3 : mI s[k * 6 + v]! a[v]! < 2 ^ pts.length := hb
   have h4 : s[k * 6 + v]! < mI s[k * 6 + v]! a[v]! := h2
   omega
 ·rw [if_neg hc]
  exact ⟨h,.inl ⟨rfl,Classical.not_not.1 hc⟩⟩
theorem Fh {ts:List Int}{pts:List Pnt}{a:List Nat}{k:Nat}(hk:k < pts.length) (ha:∀ v,v < 6 → JF ts pts k v a[v]!) (s:List Nat) (b:Bool) (h:SF ts pts s) :
  SF ts pts (rK a (s,b) k).1 ∧ ((rK a (s,b) k = (s,b) ∧ ∀ v,v < 6 → mI s[k * 6 + v]! a[v]! = s[k * 6 + v]!) ∨ ((rK a (s,b) k).2 = true ∧ eI ((rK a (s,b) k).1.map (fun x => 2 ^ pts.length - x)) < eI (s.map (fun x => 2 ^ pts.length - x)))) := by
 have := iE (oD a k) (fun v s => mI s[k * 6 + v]! a[v]! = s[k * 6 + v]!) (fun s => eI (s.map (fun x => 2 ^ pts.length - x))) (SF ts pts) (List.range 6)
  (fun s' b' v hv hs => vS hk ha s' b' v (List.mem_range.1 hv) hs) s b h
 refine ⟨this.1,?_⟩
 rcases this.2 with ⟨e1,e2⟩|h2
 ·exact .inl ⟨e1,fun v hv => e2 v (List.mem_range.2 hv)⟩
 ·exact .inr h2
theorem Eh {ts:List Int}{pts:List Pnt}(w:WG ts pts) (s:List Nat) (b:Bool) (i:Nat) (hi:i < pts.length) (h:SF ts pts s) :
  SF ts pts (yR ts pts (s, b) i).1 ∧ ((yR ts pts (s, b) i = (s, b) ∧ ∀ k, c9 pts i k → ∀ v, v < 6 → mI s[k * 6 + v]! (vE ts pts i (dN s i))[v]! = s[k * 6 + v]!) ∨
   ((yR ts pts (s,b) i).2 = true ∧ eI ((yR ts pts (s,b) i).1.map (fun x => 2 ^ pts.length - x)) < eI (s.map (fun x => 2 ^ pts.length - x)))) := by
 have := iE (rK (vE ts pts i (dN s i))) (fun k s' => ∀ v, v < 6 → mI s'[k * 6 + v]! (vE ts pts i (dN s i))[v]! = s'[k * 6 + v]!) (fun s => eI (s.map (fun x => 2 ^ pts.length - x))) (SF ts pts) (rC pts i)
  (fun s' b' k hk hs => by
   have e := (mQ w hi).1 hk
   exact Fh (cX w e) (fun v hv => Bq w h e hv) s' b' hs) s b h
 refine ⟨this.1,?_⟩
 rcases this.2 with ⟨e1,e2⟩|h2
 ·exact .inl ⟨e1,fun k e => e2 k ((mQ w hi).2 e)⟩
 ·exact .inr h2
def uY (ts : List Int) (pts : List Pnt) (s : List Nat) : Prop := ∀ i k,c9 pts i k → ∀ v,v < 6 → mI s[k * 6 + v]! (vE ts pts i (dN s i))[v]! = s[k * 6 + v]!
theorem Fm {ts:List Int}{pts:List Pnt}(w:WG ts pts) (s:List Nat) (b:Bool) (h:SF ts pts s) :
  SF ts pts (Fv ts pts (s,b)).1 ∧ ((Fv ts pts (s,b) = (s,b) ∧ uY ts pts s) ∨ ((Fv ts pts (s,b)).2 = true ∧ eI ((Fv ts pts (s,b)).1.map (fun x => 2 ^ pts.length - x)) < eI (s.map (fun x => 2 ^ pts.length - x)))) := by
 have := iE (yR ts pts) (fun i s => ∀ k, c9 pts i k → ∀ v, v < 6 → mI s[k * 6 + v]! (vE ts pts i (dN s i))[v]! = s[k * 6 + v]!) (fun s => eI (s.map (fun x => 2 ^ pts.length - x))) (SF ts pts) (List.range pts.length)
  (fun s' b' i hi hs => Eh w s' b' i (List.mem_range.1 hi) hs) s b h
 refine ⟨this.1,?_⟩
 rcases this.2 with ⟨e1,e2⟩|h2
 ·exact .inl ⟨e1,fun i k e => e2 i (List.mem_range.2 e.1) k e⟩
 ·exact .inr h2
theorem wU {ts:List Int}{pts:List Pnt}(w:WG ts pts){a:Nat × Nat × Nat}(h:FO ts pts a):a.1 < pts.length ∧ a.2.1 < ts.length ∧ a.2.2 < pts.length:=by
 induction h with
 | @base a h =>
  have h1 := (w.set _ h.1.1).1
  have h2 := h.2.2
  exact ⟨cX w h.1,by omega,h.1.1⟩
 | @step a b _ r ih =>
  refine ⟨cX w r.2.1,?_,by rw [r.1]; exact ih.2.2⟩
  rcases r.2.2 with ⟨_,h,_⟩ | ⟨h,_⟩
  ·rw [h]; exact ih.2.1
  ·have h1 := (w.set _ r.2.1.1).1
   omega
theorem DJ {ts:List Int}{pts:List Pnt}(w:WG ts pts){A:List Nat}(h:SF ts pts A) (hc:uY ts pts A):oI ts pts A:=by
 refine ⟨h.1,fun i v hi hv l => ⟨fun hl => (h.2 i v hi hv).2 l hl,fun hm => ?_⟩⟩
 have htl := w.tl
 have key : ∀ a : Nat × Nat × Nat, FO ts pts a → A[a.1 * 6 + a.2.1]!.testBit a.2.2 = true ∧ a.2.1 < ts.length := by
  refine Clo.sub (T := fun a : Nat × Nat × Nat => A[a.1 * 6 + a.2.1]!.testBit a.2.2 = true ∧ a.2.1 < ts.length) ?_ ?_
  ·rintro ⟨k, v, l⟩ ⟨e, hl, hs⟩
   dsimp only at e hl hs ⊢
   have h1 := (w.set _ e.1).1
   have hv : v < 6 := by omega
   refine ⟨eW.1 (hc l k e v hv) l ?_,by omega⟩
   rw [iV w e.1 hv (fL h.1 e.1)]
   exact .inr ⟨hs,.inl ⟨hl,rfl⟩⟩
  ·rintro ⟨i, v, l⟩ ⟨k, v', l'⟩ ⟨ht, hv⟩ ⟨rfl, e, hd⟩
   dsimp only at ht hv e hd ⊢
   have h1 := (w.set _ e.1).1
   rcases hd with ⟨g1,rfl,g3⟩ | ⟨g1,g2,g3⟩
   ·refine ⟨eW.1 (hc i k e v' (by omega)) l' ?_, hv⟩
    rw [iV w e.1 (by omega) (fL h.1 e.1),eR h.1 e.1 (by omega)]
    exact .inl ⟨g1,g3,ht⟩
   ·refine ⟨eW.1 (hc i k e v' (by omega)) l' ?_, by omega⟩
    rw [iV w e.1 (by omega) (fL h.1 e.1)]
    have : pts[i]!.y.toNat = v := by omega
    rw [this,eR (v := v) h.1 e.1 (by omega)]
    exact .inr ⟨g1,.inr ⟨g3,ht⟩⟩
 exact (key (i,v,l) hm).1
theorem Jd {ts:List Int}{pts:List Pnt}:SF ts pts (List.replicate (pts.length * 6) 0):=by
 refine ⟨by simp,fun i v hi hv => ?_⟩
 rw [bF _ _ (by simp;omega),List.getElem_replicate]
 exact ⟨Nat.pow_pos (by decide),fun l h => by simp at h⟩
theorem HX {ts:List Int}{pts:List Pnt}(w:WG ts pts){s:List Nat}(h:SF ts pts s) (q:Nat):Sm s[q]!:=by
 have hpl := w.pl
 by_cases hq : q < s.length
 ·have e : q = q / 6 * 6 + q % 6 := by omega
  have := h.1
  have := (h.2 (q / 6) (q % 6) (by omega) (by omega)).1
  rw [← e] at this
  exact ⟨Nat.lt_of_lt_of_le this (Nat.pow_le_pow_right (by decide) (by omega))⟩
 ·rw [getElem!_neg s q hq]; exact ⟨by decide⟩
theorem sR (a:List Nat) (k v:Nat) (s:List Nat × Bool):(List.range (v + 1)).foldl (oD a k) s = oD a k ((List.range v).foldl (oD a k) s) v := dD _ _ _
theorem Cn {a:List Nat}{pts:List Pnt}{i j:Nat}(h:j < pts[i]!.next.length) (s:List Nat × Bool) :
  ((rC pts i).take (j + 1)).foldl (rK a) s = rK a (((rC pts i).take j).foldl (rK a) s) (pts[i]!.next[j]!).toNat := by
 rw [dL _ _ _ _ (by rw [j8]; exact h),vJ h]
section
theorem fN {e:Nat}(hM:Nat.blt n aX = true) (hN:Nat.blt d N = true) (kk:RW P N all Q .txt rest ⟨(d,.own n 0 0 e) :: ts,(n,some []) :: hs,n + 1,z0⟩) :
  RW P N all Q .txt (⟨some d,.assign (.const (.slice none 0 0)),ty,pos,af,none⟩ :: rest) ⟨ts,hs,n,z0⟩ := by
 refine tD (av := .v (.slice none 0 0)) rfl hN (md' := .txt) (fM kk ((Le.nilOwn (d := d) e (by simp [iY]) (dS hM)).trans ?_))
 refine Le.of (fun t av h => ?_) (fun i c h => h) (Nat.le_refl _) rfl
 show lk ((d,.own n 0 0 e) :: (d,.v (.slice none 0 0)) :: ts) t = _
 have h' : lk ((d,.own n 0 0 e) :: ts) t = some av := h
 simp only [iY] at h' ⊢
 split
 ·rename_i q;rw [if_pos q] at h'; exact h'
 ·rename_i q;rw [if_neg q] at h'; exact h'
theorem zL {xs:List Nat}{t el m:Nat}{x i:Operand}{kk0:IntKind}{k:Int}[ht:SlT P t el] [he:SzT P el 6] (hx:ev (lk ts) x = some (.imm m (flat cW xs)))
  (hi : ev (lk ts) i = some (.v (.int kk0 k))) (hm : 0 ≤ k ∧ k < m) (hN : Nat.blt d N = true) {md' : Md} [hmd : MdA md (rO x ++ rO i) [.inl d] md'] (kk : RW P N all Q md' rest ⟨(d,.iptr (flat cW (xs.drop (k.toNat * 6)))) :: ts,hs,n,z0⟩) :
  RW P N all Q md (⟨some d,.indexAddr t x i,ty,pos,af,none⟩ :: rest) ⟨ts,hs,n,z0⟩ :=
 fG (out := .iptr (flat cW (xs.drop (k.toNat * 6)))) hx hi ht.pf he.pf (by
  simp only [yF]; rw [if_pos hm]
  have := eT cW (e := 1) xs (k.toNat * 6);rw [Nat.mul_one] at this;rw [this]) (dS hN) (by rw [hmd.pf]; exact kk)
theorem wY {z:Nat}{t:TypeId}{x:Operand}{xs:List Nat}[ha:AgT P t true] [hz:SzT P t z] (hx:ev (lk ts) x = some (.iptr (flat cW xs))) (hl:z ≤ xs.length) (h0:Nat.blt 0 z = true)
  (hN : Nat.blt d N = true) {md' : Md} [hmd : MdA md (rO x ++ rA (.iptr (flat cW xs))) [.inl d] md'] (kk : RW P N all Q md' rest ⟨(d,.agg (flat cW (xs.take z))) :: ts,hs,n,z0⟩) : RW P N all Q md (⟨some d,.load t x,ty,pos,af,none⟩ :: rest) ⟨ts,hs,n,z0⟩ := by
 have e2 : (flat cW xs).take z = flat cW (xs.take z) := by have := eH cW (e := 1) xs z;rw [Nat.mul_one] at this;exact this
 exact m6 (cs := flat cW xs) hx ha.pf hz.pf rfl e2 (by rw [dQ,List.length_take]; omega) (by have := dS h0;omega) (dS hN) (by rw [hmd.pf]; exact kk)
end
def gM (ts : List Int) (x : Pnt) (m : Bool) : List Acc :=
 (if x.op = 4 ∨ x.op = 6 then [⟨x.y,false⟩] else if x.op = 5 then [⟨x.y,true⟩] else if x.op = 7 ∨ x.op = 8 then [⟨x.x,true⟩] else if x.op = 3 ∧ HT ts[x.y.toNat]! = true then [⟨x.y,true⟩] else []) ++
 (if 0 ≤ aT x ∧ ts[(aT x).toNat]! = 2 ∧ m = true then [⟨aT x,true⟩] else [])
def Jt (f : List Nat) (L : List Int) (a : Nat) : Nat := L.foldl (fun a v => a ||| f[v.toNat]!) a
def rQ (ts : List Int) (x : Pnt) (live : Nat) (f : List Nat) : Nat := Jt f (bB (l7 live (wS ts x [2] ||| fY x))) 0
theorem eX (f:List Nat) (l:Nat):∀ (L:List Int) (a:Nat),(Jt f L a).testBit l = true ↔ a.testBit l = true ∨ ∃ v ∈ L,f[v.toNat]!.testBit l = true
 | [],a => by simp [Jt]
 | v :: L, a => by
  show (Jt f L (a ||| f[v.toNat]!)).testBit l = true ↔ _
  rw [eX f l L,Nat.testBit_or,Bool.or_eq_true]
  simp only [List.mem_cons,exists_eq_or_imp]
  grind
def Ga (pts : List Pnt) (wr : Bool) (L : List Int) (a : Nat) : Nat := L.foldl (fun a l => if wr = true ∨ pts[l.toNat]!.op = 5 then a ||| 2 ^ l.toNat else a) a
def F3 (pts : List Pnt) (loans : Nat) (acs : List Acc) (a : Nat) : Nat := acs.foldl (fun a c => Ga pts c.write (bB (loans &&& oZ pts (2 ^ c.var.toNat))) a) a
theorem oP (pts:List Pnt) (wr:Bool) (l:Nat):∀ (L:List Int) (a:Nat),(Ga pts wr L a).testBit l = true ↔ a.testBit l = true ∨ ((∃ z ∈ L,z.toNat = l) ∧ (wr = true ∨ pts[l]!.op = 5))
 | [],a => by simp [Ga]
 | z :: L, a => by
  show (Ga pts wr L (if wr = true ∨ pts[z.toNat]!.op = 5 then a ||| 2 ^ z.toNat else a)).testBit l = true ↔ _
  rw [oP pts wr l L]
  have h2 : ∀ b : Nat, (a ||| 2 ^ b).testBit l = true ↔ a.testBit l = true ∨ b = l := by
   intro b
   rw [Nat.testBit_or,Bool.or_eq_true,Nat.testBit_two_pow,decide_eq_true_eq]
  split
  ·rename_i h
   rw [h2]
   simp only [List.mem_cons,exists_eq_or_imp]
   constructor
   ·rintro ((h1 | rfl) | ⟨h1, h3⟩)
    ·exact .inl h1
    ·exact .inr ⟨.inl rfl,h⟩
    ·exact .inr ⟨.inr h1,h3⟩
   ·rintro (h1 | ⟨rfl | h1, h3⟩)
    ·exact .inl (.inl h1)
    ·exact .inl (.inr rfl)
    ·exact .inr ⟨h1,h3⟩
  ·rename_i h
   simp only [List.mem_cons,exists_eq_or_imp]
   constructor
   ·rintro (h1 | ⟨h1, h3⟩)
    ·exact .inl h1
    ·exact .inr ⟨.inr h1,h3⟩
   ·rintro (h1 | ⟨rfl | h1, h3⟩)
    ·exact .inl h1
    ·exact absurd h3 h
    ·exact .inr ⟨h1,h3⟩
theorem gG (pts:List Pnt) (loans l:Nat) (hl:Sm loans):∀ (acs:List Acc) (a:Nat),(F3 pts loans acs a).testBit l = true ↔ a.testBit l = true ∨ ∃ c ∈ acs,loans.testBit l = true ∧ (oZ pts (2 ^ c.var.toNat)).testBit l = true ∧ (c.write = true ∨ pts[l]!.op = 5)
 | [],a => by simp [F3]
 | c :: acs, a => by
  show (F3 pts loans acs (Ga pts c.write (bB (loans &&& oZ pts (2 ^ c.var.toNat))) a)).testBit l = true ↔ _
  rw [gG pts loans l hl acs,oP]
  have h2 : (∃ z ∈ bB (loans &&& oZ pts (2 ^ c.var.toNat)), z.toNat = l) ↔ loans.testBit l = true ∧ (oZ pts (2 ^ c.var.toNat)).testBit l = true := by
   constructor
   ·rintro ⟨z, hz, rfl⟩
    obtain ⟨v,h1,h3,rfl⟩ := cD.1 hz
    rw [Nat.testBit_and,Bool.and_eq_true] at h3;exact h3
   ·intro h
    have : l < 62 := cM hl.pf h.1
    exact ⟨(l : Int),cD.2 ⟨l,this,by rw [Nat.testBit_and,h.1,h.2]; rfl,rfl⟩,rfl⟩
  rw [h2]
  simp only [List.mem_cons,exists_eq_or_imp]
  grind
theorem wK (ts:List Int) (x:Pnt) (m:Bool):(gM ts x m).length ≤ 2:=by
 unfold gM;rw [List.length_append]
 have h1 : ∀ (c : Prop) [Decidable c] (a b : List Acc), a.length ≤ 1 → b.length ≤ 1 → (if c then a else b).length ≤ 1 := by
  intro c _ a b h h2;split <;> assumption
 have a1 := h1 (x.op = 3 ∧ HT ts[x.y.toNat]! = true) [⟨x.y,true⟩] [] (by simp) (by simp)
 have a2 := h1 (x.op = 7 ∨ x.op = 8) [⟨x.x,true⟩] _ (by simp) a1
 have a3 := h1 (x.op = 5) [⟨x.y,true⟩] _ (by simp) a2
 have a4 := h1 (x.op = 4 ∨ x.op = 6) [⟨x.y,false⟩] _ (by simp) a3
 have a5 := h1 (0 ≤ aT x ∧ ts[(aT x).toNat]! = 2 ∧ m = true) [⟨aT x,true⟩] [] (by simp) (by simp)
 omega
theorem uK {ts:List Int}{pts:List Pnt}(m:Bool) (w:WG ts pts){i:Nat}(hi:i < pts.length):∀ c ∈ gM ts pts[i]! m,0 ≤ c.var ∧ c.var < ts.length:=by
 have hst := w.set i hi
 have hx := w.x i hi
 have hy := w.y i hi
 intro c hc
 unfold gM at hc
 rw [List.mem_append] at hc
 rcases hc with hc|hc
 ·repeat' split at hc
  all_goals first
   | (rw [List.mem_singleton] at hc;subst hc;dsimp only;omega)
   | cases hc
 ·split at hc
  ·rw [List.mem_singleton] at hc;subst hc;dsimp only;omega
  ·cases hc
def C7 (i : Nat) (L : List Int) : List Iss := L.map fun v => ⟨i,1,v⟩
def CC (pts : List Pnt) (i : Nat) (L : List Int) : List Iss := L.map fun l => ⟨i,if pts[l.toNat]!.op = 5 then 3 else 2,l⟩
def Bw (ts : List Int) (pts : List Pnt) (Am Al Af Ap : List Nat) (i : Nat) : Nat :=
 F3 pts (rQ ts pts[i]! Al[i]! (dN Af i) &&& Ap[i]!) (gM ts pts[i]! (Am[i]!.testBit (aT pts[i]!).toNat)) 0
def CS (ts : List Int) (pts : List Pnt) (Aa Am Al Af Ap : List Nat) (i : Nat) : List Iss :=
 C7 i (bB (l7 (wS ts pts[i]! [1,2,3]) Aa[i]!)) ++ CC pts i (bB (Bw ts pts Am Al Af Ap i))
def xP (ts : List Int) (pts : List Pnt) (Aa Am Al Af Ap : List Nat) (k : Nat) : List Iss := (List.range k).flatMap (CS ts pts Aa Am Al Af Ap)
theorem s8 (ts:List Int) (pts:List Pnt) (Aa Am Al Af Ap:List Nat) (k:Nat):xP ts pts Aa Am Al Af Ap (k + 1) = xP ts pts Aa Am Al Af Ap k ++ CS ts pts Aa Am Al Af Ap k:=by
 unfold xP;rw [List.range_succ,List.flatMap_append]; simp
theorem iZ {α β:Type}[Inhabited α] (g:α → β) (L:List α) (k:Nat) (h:k < L.length):(L.take (k + 1)).map g = (L.take k).map g ++ [g L[k]!]:=by
 rw [bQ _ _ h,List.map_append]; rfl
theorem GG {xs:List Iss}{m:Nat}{a b c:Int}(hm:m = xs.length):((flat jX xs).drop 0).take (m * 3) ++ [iv a,iv b,iv c] = flat jX (xs ++ [⟨a,b,c⟩]) := iJ hm rfl
theorem z7 {ts:List Int}{pts:List Pnt}(w:WG ts pts){Am Al Af Ap:List Nat}{i:Nat}(hp:Ap[i]! < 2 ^ pts.length):Bw ts pts Am Al Af Ap i < 2 ^ pts.length:=by
 have hpl := w.pl
 have hl : rQ ts pts[i]! Al[i]! (dN Af i) &&& Ap[i]! < 2 ^ pts.length := Nat.and_lt_two_pow _ hp
 apply Nat.lt_pow_two_of_testBit
 intro l hl2
 unfold Bw
 cases hq : (F3 pts (rQ ts pts[i]! Al[i]! (dN Af i) &&& Ap[i]!) (gM ts pts[i]! (Am[i]!.testBit (aT pts[i]!).toNat)) 0).testBit l with
 | false => rfl
 | true =>
  rw [gG _ _ _ ⟨Nat.lt_of_lt_of_le hl (Nat.pow_le_pow_right (by decide) (by omega))⟩] at hq
  rcases hq with hq | ⟨c,_,h2,_⟩
  ·simp at hq
  ·have := cM hl h2;omega
theorem FF {ts:List Int}{pts:List Pnt}(w:WG ts pts){a:Nat × Nat}(h:Mb ts pts a):a.2 < ts.length:=by
 induction h with
 | base h => obtain ⟨i,e,h2⟩ := h;have := (w.set i e.1).1;omega
 | step _ r ih => rw [r.1]; exact ih
section
theorem pO {fn:Go.Fn}{t i:Nat}{cs:List AV}(hx:lk ts t = some (.optr i 0)) (hH:aP hs i = some cs) (hN:Nat.blt d N = true)
  (kk : RW P N all Q .txt rest ⟨(d,.clos fn [] [.iptr cs]) :: (t,.iptr cs) :: ts,(i,none) :: hs,n,z0⟩) : RW P N all Q .txt (⟨some d,.makeFunc fn #[] #[.tmp t],ty,pos,af,none⟩ :: rest) ⟨ts,hs,n,z0⟩ :=
 fM (oK (f := []) (c := [.iptr cs]) rfl (by show evL _ [Operand.tmp t] = _; simp [evL,ev,iY]) hN (md' := .txt) kk) (Le.frzP hx hH)
end
structure Flows (ts : List Int) (pts : List Pnt) where
 Aa : List Nat
 Am : List Nat
 An : List Nat
 Al : List Nat
 Af : List Nat
 Ap : List Nat
 ga : oJ ts pts Aa
 gm : oT ts pts Am
 gn : qN ts pts An
 gl : oQ ts pts Al
 gf : oI ts pts Af
 gp : oL ts pts Ap
theorem lQ (n m:Nat) (T:Nat → Nat → Prop) (h:∀ i v,i < n → T i v → v < m):∃ A:List Nat,A.length = n ∧ ∀ i,i < n → ∀ v,A[i]!.testBit v = true ↔ T i v:=by
 have key : ∀ i : Nat, ∃ f : Nat → Bool, ∀ v, f v = true ↔ T i v := fun i => by
  have : ∀ v, ∃ b : Bool, b = true ↔ T i v := fun v => by
   by_cases hT : T i v
   ·exact ⟨true,by simp [hT]⟩
   ·exact ⟨false,by simp [hT]⟩
  exact ⟨fun v => Classical.choose (this v),fun v => Classical.choose_spec (this v)⟩
 refine ⟨(List.range n).map (fun i => eF (Classical.choose (key i)) m),by simp,fun i hi v => ?_⟩
 rw [bF _ _ (by simpa using hi),List.getElem_map,List.getElem_range,eE,Bool.and_eq_true,decide_eq_true_eq,Classical.choose_spec (key i) v]
 exact ⟨fun h2 => h2.2,fun h2 => ⟨h i v hi h2,h2⟩⟩
theorem Flows.ex {ts:List Int}{pts:List Pnt}(w:WG ts pts):Nonempty (Flows ts pts):=by
 obtain ⟨Aa,a1,a2⟩ := lQ pts.length ts.length (fun i v => v < ts.length ∧ ¬ Na ts pts (i,v)) (fun i v _ h => h.1)
 obtain ⟨Am,b1,b2⟩ := lQ pts.length ts.length (fun i v => Mb ts pts (i,v)) (fun i v _ h => FF w h)
 obtain ⟨An,c1,c2⟩ := lQ pts.length ts.length (fun i v => Nd ts pts (i,v)) (fun i v _ h => oS w h)
 obtain ⟨Al,d1,d2⟩ := lQ pts.length ts.length (fun i v => Lv ts pts i v) (fun i v _ h => by obtain ⟨k,_,h⟩ := h;exact oS w h)
 obtain ⟨Ap,e1,e2⟩ := lQ pts.length pts.length (fun i l => Gr ts pts (i,l)) (fun i v _ h => (nG h).1)
 obtain ⟨Af,f1,f2⟩ := lQ (pts.length * 6) pts.length (fun q l => FO ts pts (q / 6,q % 6,l)) (fun q v _ h => (wU w h).2.2)
 refine ⟨⟨Aa,Am,An,Al,Af,Ap,⟨a1,a2⟩,⟨b1,b2⟩,⟨c1,c2⟩,⟨d1,d2⟩,⟨f1,fun i v hi hv l => ?_⟩,⟨e1,e2⟩⟩⟩
 rw [f2 (i * 6 + v) (by omega) l,show (i * 6 + v) / 6 = i by omega,show (i * 6 + v) % 6 = v by omega]
def Flows.iss {ts : List Int} {pts : List Pnt} (f : Flows ts pts) : List Iss := xP ts pts f.Aa f.Am f.Al f.Af f.Ap pts.length
end Go.AL
