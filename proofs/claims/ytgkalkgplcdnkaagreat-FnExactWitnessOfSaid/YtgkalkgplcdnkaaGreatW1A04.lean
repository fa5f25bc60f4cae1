/-
 A part of the proofs over this program: rules and contracts of its functions (the rules).
-/
import Derived.Test.YtgkalkgplcdnkaaGreatW1A03
set_option linter.unusedVariables false
set_option linter.unusedSimpArgs false
namespace Go.AL
open Go.RowKit
mutual
def nU : Stmt → Nat
 | .mk op _ _ _ th el => if op = 9 then 2 + cF th + cF el else if op = 10 then 2 + cF th else 1
def cF : List Stmt → Nat
 | [] => 0
 | s :: l => nU s + cF l
end
mutual
def Cd (b : Nat) : Stmt → List Pnt
 | .mk op x y n th el =>
  if op = 9 then [⟨9,0,0,0,[(b : Int) + 1,(b : Int) + 1 + cF th + 1]⟩] ++ fX (b + 1) th ++ [⟨10,0,0,1,[(b : Int) + 2 + cF th + cF el]⟩] ++ fX (b + 2 + cF th) el
  else if op = 10 then [⟨10,0,0,0,[(b : Int) + 1,(b : Int) + 2 + cF th]⟩] ++ fX (b + 1) th ++ [⟨10,0,0,1,[(b : Int)]⟩]
  else [⟨op,x,y,n,[(b : Int) + 1]⟩]
def fX (b : Nat) : List Stmt → List Pnt
 | [] => []
 | s :: l => Cd b s ++ fX (b + nU s) l
end
mutual
theorem BH:∀ (s:Stmt) (b:Nat),(Cd b s).length = nU s
 | .mk op x y n th el, b => by
  have h1 := bD th (b + 1)
  have h2 := bD el (b + 2 + cF th)
  simp only [Cd,nU]
  split
  ·simp [h1,h2]; omega
  ·split
   ·simp [h1]; omega
   ·simp
theorem bD:∀ (l:List Stmt) (b:Nat),(fX b l).length = cF l
 | [],b => by simp [fX,cF]
 | s :: l,b => by simp only [fX,cF,List.length_append,BH s b,bD l (b + nU s)]
end
mutual
theorem J0:∀ (s:Stmt),nU s ≤ 2 * cJ s
 | .mk op x y n th el => by
  have h1 := kR th
  have h2 := kR el
  simp only [nU,cJ]; split
  ·omega
  ·split <;> omega
theorem kR:∀ (l:List Stmt),cF l ≤ 2 * aM l
 | [] => by simp [cF,aM]
 | s :: l => by have h1 := J0 s;have h2 := kR l;simp only [cF,aM]; omega
end
theorem mH:∀ a b,cF (a ++ b) = cF a + cF b
 | [],b => by simp [cF]
 | s :: a,b => by simp only [List.cons_append,cF,mH a b]; omega
theorem qN:∀ (a b:List Stmt) (k:Nat),fX k (a ++ b) = fX k a ++ fX (k + cF a) b
 | [],b,k => by simp [fX,cF]
 | s :: a,b,k => by simp only [List.cons_append,fX,cF,qN a b,List.append_assoc,Nat.add_assoc]
theorem fD (l:List Stmt) (b k:Nat) (hk:k < l.length):fX b (l.take (k + 1)) = fX b (l.take k) ++ Cd (b + cF (l.take k)) l[k]!:=by
 rw [dK _ _ hk,qN]; simp [fX]
theorem eK (l:List Stmt) (k:Nat) (hk:k < l.length):cF (l.take (k + 1)) = cF (l.take k) + nU l[k]!:=by
 rw [dK _ _ hk,mH]; simp [cF]
theorem yY (l:List Stmt) (k:Nat):cF (l.take k) ≤ cF l:=by
 conv => rhs;rw [← List.take_append_drop k l]
 rw [mH]; omega
theorem u6 (s:Stmt):nU s = if s.op = 9 then 2 + cF s.th + cF s.el else if s.op = 10 then 2 + cF s.th else 1:=by
 cases s;simp only [nU,Stmt.op,Stmt.th,Stmt.el]; rfl
theorem gK (b:Nat) (s:Stmt):Cd b s = if s.op = 9 then [⟨9,0,0,0,[(b:Int) + 1,(b:Int) + 1 + cF s.th + 1]⟩] ++ fX (b + 1) s.th ++ [⟨10,0,0,1,[(b:Int) + 2 + cF s.th + cF s.el]⟩] ++ fX (b + 2 + cF s.th) s.el
  else if s.op = 10 then [⟨10,0,0,0,[(b : Int) + 1,(b : Int) + 2 + cF s.th]⟩] ++ fX (b + 1) s.th ++ [⟨10,0,0,1,[(b : Int)]⟩]
  else [⟨s.op,s.x,s.y,s.n,[(b : Int) + 1]⟩] := by
 cases s;simp only [Cd,Stmt.op,Stmt.th,Stmt.el,Stmt.x,Stmt.y,Stmt.n]; rfl
def aB (p : Prg) : List Pnt := fX 0 p.body ++ [⟨11,0,0,0,[]⟩]
theorem nA (p:Prg):(aB p).length = cF p.body + 1 := by simp [aB,bD]
theorem kO {α:Type}{f:α → List AV}{e:Nat}[h:FlT f e] {xs:List α}{m:Nat}{new:List AV}{y:α}(hm:m = xs.length) (hn:new = f y):((flat f xs).drop 0).take (m * e) ++ new = flat f (xs ++ [y]):=by
 subst hm hn
 rw [List.drop_zero,List.take_of_length_le (by rw [aK f (e := e)]; exact Nat.le_refl _),← bX,kE]
theorem Gp {xs:List Pnt}{m:Nat}{a b c d:Int}(hm:m = xs.length):((flat bK xs).drop 0).take (m * 5) ++ [iv a,iv b,iv c,iv d,.imm 0 []] = flat bK (xs ++ [⟨a,b,c,d,[]⟩]) := kO hm rfl
theorem Fz {xs:List Pnt}{m:Nat}{a b c d e:Int}(hm:m = xs.length):((flat bK xs).drop 0).take (m * 5) ++ [iv a,iv b,iv c,iv d,.imm 1 [iv e]] = flat bK (xs ++ [⟨a,b,c,d,[e]⟩]) := kO hm rfl
theorem GP {xs:List Int}{m:Nat}{a:Int}(hm:m = xs.length):((flat cI xs).drop 0).take (m * 1) ++ [iv a] = flat cI (xs ++ [a]) := kO hm rfl
theorem It (A B C new:List AV) (j:Nat) (hj:j + new.length ≤ B.length):iQ (A ++ (B ++ C)) (A.length + j) new = A ++ (iQ B j new ++ C):=by
 unfold iQ
 rw [List.take_length_add_append,Nat.add_assoc,List.drop_length_add_append,List.take_append_of_le_length (by omega),List.drop_append_of_le_length hj]
 simp only [List.append_assoc]
theorem Av {α:Type}[Inhabited α] {f:α → List AV}{e:Nat}[h:FlT f e] {xs:List α}{k:Nat}(hk:k < xs.length):flat f xs = flat f (xs.take k) ++ (f xs[k]! ++ flat f (xs.drop (k + 1))):=by
 rw [← fL f (e := e) xs k hk,← fK f (e := e),List.take_append_drop]
theorem lA {α:Type}[Inhabited α] {f:α → List AV}{e:Nat}[h:FlT f e] {xs:List α}{k j:Nat}{new:List AV}{y:α}(hk:k < xs.length) (hj:j + new.length ≤ e) (hy:iQ (f xs[k]!) j new = f y):iQ (flat f xs) (0 + k * e + j) new = flat f (xs.set k y):=by
 have h3 : (flat f (xs.take k)).length = k * e := by rw [aK f (e := e),List.length_take]; congr 1;omega
 rw [Av (e := e) hk,Nat.zero_add,← h3,It _ _ _ _ _ (by rw [h.pf]; exact hj),hy,List.set_eq_take_append_cons_drop,if_pos hk,← bX]
 simp only [flat,List.flatMap_cons]
theorem fV {α:Type}[Inhabited α] {f:α → List AV}{e:Nat}[h:FlT f e] {xs:List α}{k:Nat}{new:List AV}{y:α}(hk:k < xs.length) (hy:new = f y):iQ (flat f xs) (0 + k * e) new = flat f (xs.set k y):=by
 subst hy
 rw [Nat.zero_add]; exact EO f xs k y hk
theorem Gd {xs:List Pnt}{k:Nat}{a:Int}(hk:k < xs.length):iQ (flat bK xs) (0 + k * 5 + 4) [.imm 1 [iv a]] = flat bK (xs.set k { xs[k]! with next := [a] }) := lA hk (by simp) rfl
theorem F1 {xs:List Pnt}{k:Nat}{a b:Int}(hk:k < xs.length):iQ (flat bK xs) (0 + k * 5 + 4) [.imm 2 [iv a,iv b]] = flat bK (xs.set k { xs[k]! with next := [a,b] }) := lA hk (by simp) rfl
theorem Jp {xs:List Int}{k:Nat}{a:Int}(hk:k < xs.length):iQ (flat cI xs) (0 + k * 1) [iv a] = flat cI (xs.set k a) := fV hk rfl
theorem uG {xs:List Bool}{k:Nat}{a:Bool}(hk:k < xs.length):iQ (flat cB xs) (0 + k * 1) [bv a] = flat cB (xs.set k a) := fV hk rfl
theorem F4 (s:Stmt):s.op = 9 → nU s = 2 + cF s.th + cF s.el := by intro h;rw [u6,if_pos h]
theorem AR (s:Stmt):s.op = 10 → nU s = 2 + cF s.th := by intro h;rw [u6,if_neg (by omega),if_pos h]
theorem Gb (s:Stmt):¬ s.op = 9 → ¬ s.op = 10 → nU s = 1 := by intro h h2;rw [u6,if_neg h,if_neg h2]
theorem zS (l:List Stmt) (k:Nat):k < l.length → cF (l.take k) + nU l[k]! ≤ cF l:=by
 intro h;have := yY l (k + 1);rw [eK l k h] at this;exact this
theorem pN {α:Type}(A:List α) (x y:α) (B:List α):(A ++ x :: B).set A.length y = A ++ y :: B:=by
 rw [List.set_append_right _ _ (Nat.le_refl _),Nat.sub_self,List.set_cons_zero]
theorem vQ {α:Type}[Inhabited α] (A:List α) (x:α) (B:List α):(A ++ x :: B)[A.length]! = x:=by
 rw [aW _ _ (by simp),List.getElem_append_right (Nat.le_refl _)]; simp
theorem tO {xs T E:List Pnt}{p q:Pnt}{m:Nat}(hm:m = xs.length):(xs ++ [p] ++ T ++ [q] ++ E)[m]! = p:=by
 subst hm;simp only [List.append_assoc,List.singleton_append,List.cons_append,List.nil_append]; exact vQ _ _ _
theorem vG {xs T E:List Pnt}{p q p':Pnt}{m:Nat}(hm:m = xs.length):(xs ++ [p] ++ T ++ [q] ++ E).set m p' = xs ++ [p'] ++ T ++ [q] ++ E:=by
 subst hm;simp only [List.append_assoc,List.singleton_append,List.cons_append,List.nil_append]; exact pN _ _ _ _
theorem uT {xs T E:List Pnt}{p q:Pnt}{j:Nat}(hj:j = xs.length + 1 + T.length):(xs ++ [p] ++ T ++ [q] ++ E)[j]! = q:=by
 have h : j = (xs ++ [p] ++ T).length := by simp [hj]; omega
 subst h
 rw [show xs ++ [p] ++ T ++ [q] ++ E = (xs ++ [p] ++ T) ++ q :: E by simp]; exact vQ _ _ _
theorem vT {xs T E:List Pnt}{p q q':Pnt}{j:Nat}(hj:j = xs.length + 1 + T.length):(xs ++ [p] ++ T ++ [q] ++ E).set j q' = xs ++ [p] ++ T ++ [q'] ++ E:=by
 have h : j = (xs ++ [p] ++ T).length := by simp [hj]; omega
 subst h
 rw [show xs ++ [p] ++ T ++ [q] ++ E = (xs ++ [p] ++ T) ++ q :: E by simp,pN]; simp
theorem zO {xs T:List Pnt}{p q:Pnt}{m:Nat}(hm:m = xs.length):(xs ++ [p] ++ T ++ [q])[m]! = p:=by
 subst hm;simp only [List.append_assoc,List.singleton_append,List.cons_append,List.nil_append]; exact vQ _ _ _
theorem Ba {xs T:List Pnt}{p q p':Pnt}{m:Nat}(hm:m = xs.length):(xs ++ [p] ++ T ++ [q]).set m p' = xs ++ [p'] ++ T ++ [q]:=by
 subst hm;simp only [List.append_assoc,List.singleton_append,List.cons_append,List.nil_append]; exact pN _ _ _ _
structure WG (ts : List Int) (pts : List Pnt) : Prop where
 tl : ts.length ≤ 6
 ty : ∀ v,v < ts.length → 1 ≤ ts[v]! ∧ ts[v]! ≤ 4
 pl : pts.length ≤ 61
 p0 : 0 < pts.length
 nx : ∀ i,i < pts.length → ∀ k ∈ pts[i]!.next,0 ≤ k ∧ k < pts.length
 nl : ∀ i,i < pts.length → pts[i]!.next.length ≤ 2
 op : ∀ i,i < pts.length → 1 ≤ pts[i]!.op ∧ pts[i]!.op ≤ 11
 x : ∀ i,i < pts.length → 0 ≤ pts[i]!.x ∧ (pts[i]!.op ≤ 8 → pts[i]!.x < ts.length)
 y : ∀ i,i < pts.length → 0 ≤ pts[i]!.y ∧ (3 ≤ pts[i]!.op → pts[i]!.op ≤ 7 → pts[i]!.y < ts.length)
def I9 (nv b e : Nat) (x : Pnt) : Prop := (∀ k ∈ x.next,0 ≤ k ∧ k < (e : Int)) ∧ x.next.length ≤ 2 ∧ 1 ≤ x.op ∧ x.op ≤ 11 ∧ 0 ≤ x.x ∧ (x.op ≤ 8 → x.x < (nv : Int)) ∧ 0 ≤ x.y ∧ (3 ≤ x.op → x.op ≤ 7 → x.y < (nv : Int))
theorem Ab {ts:List Int}(ht:bG ts = true){s:Stmt}(h:fA ts s = true):1 ≤ s.op ∧ s.op ≤ 8 ∧ 0 ≤ s.x ∧ s.x < ts.length ∧ 0 ≤ s.y ∧ (3 ≤ s.op → s.op ≤ 7 → s.y < ts.length):=by
 have hx := qS ht s.x
 have hy := qS ht s.y
 have bx := gN ht s.x
 have by' := gN ht s.y
 unfold fA at h
 dsimp only at h
 repeat' split at h
 all_goals first
  | (simp only [decide_eq_true_eq] at h;omega)
  | (cases h;done)
mutual
theorem Jt {ts:List Int}(ht:bG ts = true):∀ (s:Stmt) (d b e:Nat),sG ts d s = true → b + nU s < e → ∀ x ∈ Cd b s,I9 ts.length b e x
 | .mk op x y n th el, d, b, e, h, hb => by
  simp only [sG] at h
  split at h
  ·rename_i hop
   simp only [Bool.and_eq_true] at h
   have hs := Ab ht h.2
   simp only [Stmt.op,Stmt.x,Stmt.y] at hs
   simp only [nU,hop.1,hop.2,if_false] at hb
   simp only [Cd,hop.1,hop.2,if_false,List.mem_singleton]
   rintro z rfl
   refine ⟨?_,by simp,hs.1,by show op ≤ 11;omega,hs.2.2.1,fun _ => hs.2.2.2.1,hs.2.2.2.2.1,hs.2.2.2.2.2⟩
   simp only [List.mem_singleton]; rintro k rfl;omega
  ·rename_i hop
   cases d with
   | zero => cases h
   | succ d =>
    simp only [Bool.and_eq_true,decide_eq_true_eq] at h
    obtain ⟨⟨⟨_,_⟩,h1⟩,h2⟩ := h
    by_cases h9 : op = 9
    ·subst h9
     simp only [nU,if_true] at hb
     simp only [Cd,if_true,List.mem_append,List.mem_singleton]
     rintro z (((rfl|hz)|rfl)|hz)
     ·refine ⟨?_, by simp, by simp, by simp, by simp, by simp, by simp, by simp⟩
      simp only [List.mem_cons,List.not_mem_nil,or_false]; rintro k (rfl|rfl) <;> omega
     ·exact rD ht th d (b + 1) e h1 (by omega) z hz
     ·refine ⟨?_, by simp, by simp, by simp, by simp, by simp, by simp, by simp⟩
      simp only [List.mem_singleton]; rintro k rfl;omega
     ·exact rD ht el d (b + 2 + cF th) e h2 (by omega) z hz
    ·have h10 : op = 10 := by omega
     subst h10
     simp only [nU,if_true,show ((10 : Int) = 9) = False by simp,if_false] at hb
     simp only [Cd,if_true,show ((10 : Int) = 9) = False by simp,if_false,List.mem_append,List.mem_singleton]
     rintro z ((rfl|hz)|rfl)
     ·refine ⟨?_, by simp, by simp, by simp, by simp, by simp, by simp, by simp⟩
      simp only [List.mem_cons,List.not_mem_nil,or_false]; rintro k (rfl|rfl) <;> omega
     ·exact rD ht th d (b + 1) e h1 (by omega) z hz
     ·refine ⟨?_, by simp, by simp, by simp, by simp, by simp, by simp, by simp⟩
      simp only [List.mem_singleton]; rintro k rfl;omega
theorem rD {ts:List Int}(ht:bG ts = true):∀ (l:List Stmt) (d b e:Nat),okL ts d l = true → b + cF l < e → ∀ x ∈ fX b l,I9 ts.length b e x
 | [],d,b,e,h,hb => by simp [fX]
 | s :: l, d, b, e, h, hb => by
  simp only [okL,Bool.and_eq_true] at h
  simp only [cF] at hb
  simp only [fX,List.mem_append]
  rintro x (hx|hx)
  ·exact Jt ht s d b e h.1 (by omega) x hx
  ·exact rD ht l d (b + nU s) e h.2 (by omega) x hx
end
theorem WG.of_valid {p:Prg}(h:bR p = true):WG p.types (aB p):=by
 unfold bR at h
 simp only [Bool.and_eq_true,decide_eq_true_eq] at h
 obtain ⟨⟨ht,hl⟩,hc⟩ := h
 have hn := kR p.body
 have hlen := nA p
 have key : ∀ i, i < (aB p).length → I9 p.types.length 0 (aB p).length (aB p)[i]! := by
  intro i hi
  have hm := aZ _ i hi
  unfold aB at hm
  rw [List.mem_append,List.mem_singleton] at hm
  rcases hm with hm|hm
  ·exact rD ht p.body 4 0 _ hl (by omega) _ hm
  ·unfold aB;rw [hm]; exact ⟨by simp,by simp,by simp,by simp,by simp,by simp,by simp,by simp⟩
 exact ⟨k8 ht, mL ht, by omega, by omega, fun i hi => (key i hi).1, fun i hi => (key i hi).2.1, fun i hi => ⟨(key i hi).2.2.1, (key i hi).2.2.2.1⟩,
  fun i hi => ⟨(key i hi).2.2.2.2.1,(key i hi).2.2.2.2.2.1⟩,fun i hi => ⟨(key i hi).2.2.2.2.2.2.1,(key i hi).2.2.2.2.2.2.2⟩⟩
inductive Clo {α : Type} (S : α → Prop) (R : α → α → Prop) : α → Prop
 | base {a : α} (h : S a) : Clo S R a
 | step {a b : α} (h : Clo S R a) (r : R a b) : Clo S R b
theorem Clo.sub {α:Type}{S:α → Prop}{R:α → α → Prop}{T:α → Prop}(h1:∀ a,S a → T a) (h2:∀ a b,T a → R a b → T b):∀ a,Clo S R a → T a:=by
 intro a h
 induction h with
 | base h => exact h1 _ h
 | step _ r ih => exact h2 _ _ ih r
def cE (pts : List Pnt) (i k : Nat) : Prop := i < pts.length ∧ (k : Int) ∈ pts[i]!.next
def Mb (ts : List Int) (pts : List Pnt) (a : Nat × Nat) : Prop := Clo (fun a => ∃ i,cE pts i a.1 ∧ aQ pts[i]! = a.2) (fun a b => b.2 = a.2 ∧ cE pts a.1 b.1 ∧ aV ts pts[a.1]! a.2 ≠ 2) a
def Na (ts : List Int) (pts : List Pnt) (a : Nat × Nat) : Prop := Clo (fun a => a.2 < ts.length ∧ (a.1 = 0 ∨ ∃ i,cE pts i a.1 ∧ aV ts pts[i]! a.2 = 2 ∧ aQ pts[i]! ≠ a.2)) (fun a b => b.2 = a.2 ∧ cE pts a.1 b.1 ∧ aQ pts[a.1]! ≠ a.2) a
def Nd (ts : List Int) (pts : List Pnt) (a : Nat × Nat) : Prop := Clo (fun a => a.1 < pts.length ∧ a.2 < ts.length ∧ aV ts pts[a.1]! a.2 ≠ 0) (fun a b => b.2 = a.2 ∧ cE pts b.1 a.1 ∧ aQ pts[b.1]! ≠ a.2) a
def Lv (ts : List Int) (pts : List Pnt) (i v : Nat) : Prop := ∃ k,cE pts i k ∧ Nd ts pts (k,v)
def bJ (x : Pnt) : Bool := decide (x.op = 4) || decide (x.op = 5)
def GB (ts : List Int) (pts : List Pnt) (a : Nat × Nat × Nat) : Prop := Clo (fun a => cE pts a.2.2 a.1 ∧ bJ pts[a.2.2]! = true ∧ aQ pts[a.2.2]! = a.2.1)
 (fun a b => b.2.2 = a.2.2 ∧ cE pts a.1 b.1 ∧ ((aQ pts[a.1]! ≠ b.2.1 ∧ b.2.1 = a.2.1 ∧ aV ts pts[a.1]! a.2.1 ≠ 2) ∨
  (aQ pts[a.1]! = b.2.1 ∧ (a.2.1 : Int) = pts[a.1]!.y ∧ ((bJ pts[a.1]! = true ∧ iH ts[a.2.1]! = true) ∨ pts[a.1]!.op = 3)))) a
def IM (ts : List Int) (pts : List Pnt) (a : Nat × Nat) : Prop := Clo (fun a => cE pts a.2 a.1 ∧ bJ pts[a.2]! = true)
 (fun a b => b.2 = a.2 ∧ cE pts a.1 b.1 ∧ aV ts pts[a.1]! pts[a.2]!.y ≠ 2 ∧ aQ pts[a.1]! ≠ pts[a.2]!.y) a
def dY (f : Nat → Bool) : Nat → Nat
 | 0 => 0
 | n + 1 => dY f n ||| (if f n then 2 ^ n else 0)
theorem dZ (f:Nat → Bool):∀ (n i:Nat),(dY f n).testBit i = (decide (i < n) && f i)
 | 0,i => by simp [dY]
 | n + 1, i => by
  rw [dY,Nat.testBit_or,dZ f n i]
  by_cases h : i = n
  ·subst h;cases hf : f i <;> simp [Nat.testBit_two_pow_self]
  ·have : ((if f n = true then 2 ^ n else 0).testBit i) = false := by
    split
    ·exact Nat.testBit_two_pow_of_ne (fun e => h e.symm)
    ·simp
   rw [this,Bool.or_false]
   congr 1
   simp only [decide_eq_decide]; omega
theorem sK (f:Nat → Bool) (n:Nat):dY f n < 2 ^ n:=by
 apply Nat.lt_pow_two_of_testBit
 intro i hi
 rw [dZ]; simp;omega
theorem c6 {f:Nat → Bool}{n:Nat}(h:n ≤ 62):Sm (dY f n) := ⟨Nat.lt_of_lt_of_le (sK f n) (Nat.pow_le_pow_right (by decide) h)⟩
theorem hG {σ ι:Type}(stp:σ × Bool → ι → σ × Bool) (C:ι → σ → Prop) (μ:σ → Nat) (S:σ → Prop) :
  ∀ (L : List ι),(∀ s b i,i ∈ L → S s → S (stp (s,b) i).1 ∧ ((stp (s,b) i = (s,b) ∧ C i s) ∨ ((stp (s,b) i).2 = true ∧ μ (stp (s,b) i).1 < μ s))) →
  ∀ s b,S s → S (L.foldl stp (s,b)).1 ∧ ((L.foldl stp (s,b) = (s,b) ∧ ∀ i ∈ L,C i s) ∨ ((L.foldl stp (s,b)).2 = true ∧ μ (L.foldl stp (s,b)).1 < μ s))
 | [],_,s,b,hs => ⟨hs,.inl ⟨rfl,by simp⟩⟩
 | i :: L, h, s, b, hs => by
  have h1 := h s b i (List.mem_cons_self) hs
  simp only [List.foldl_cons]
  generalize stp (s,b) i = r at h1
  obtain ⟨s',b'⟩ := r
  have h2 := hG stp C μ S L (fun s b j hj => h s b j (List.mem_cons_of_mem _ hj)) s' b' h1.1
  refine ⟨h2.1,?_⟩
  rcases h1.2 with ⟨e1,c1⟩ | ⟨e1,c1⟩
  ·cases e1
   rcases h2.2 with ⟨e2,c2⟩ | ⟨e2,c2⟩
   ·exact .inl ⟨e2,fun j hj => by rcases List.mem_cons.1 hj with rfl|hj;exact c1;exact c2 j hj⟩
   ·exact .inr ⟨e2,c2⟩
  ·rcases h2.2 with ⟨e2, c2⟩ | ⟨e2, c2⟩
   ·rw [e2]; exact .inr ⟨e1,c1⟩
   ·exact .inr ⟨e2,by dsimp only at c1;omega⟩
theorem cX {σ ι:Type}[Inhabited ι] (f:σ → ι → σ) (L:List ι) (s:σ) (k:Nat) (h:k < L.length):(L.take (k + 1)).foldl f s = f ((L.take k).foldl f s) L[k]!:=by
 rw [dK _ _ h,List.foldl_append]; rfl
def eH (l : List Nat) : Nat := l.foldr (· + ·) 0
theorem nC (g:Nat → Nat):∀ (l:List Nat) (k:Nat) (x:Nat),k < l.length → eH ((l.set k x).map g) + g l[k]! = eH (l.map g) + g x
 | a :: l,0,x,_ => by simp [eH]; omega
 | a :: l, k + 1, x, h => by
  have := nC g l k x (by simpa using h)
  have e : (a :: l)[k + 1]! = l[k]! := by rw [aW _ _ h,aW _ _ (by simpa using h)]; rfl
  rw [e]
  simp only [List.set_cons_succ,List.map_cons,eH,List.foldr_cons] at this ⊢
  omega
abbrev aG (ts : List Int) (bd : List Stmt) (pts : List Pnt) : AV := .iptr [sl cI ts,sl aR bd,sl bK pts]
def JF (t : Int) : Bool := decide (t = 2) || decide (t = 4)
def wS (ts : List Int) (x : Pnt) (us : List Int) : Nat := dY (fun v => decide (aV ts x v ∈ us)) ts.length
def gG (x : Pnt) : Nat := if 0 ≤ aQ x then 2 ^ (aQ x).toNat else 0
def fW (ts : List Int) (x : Pnt) (A : Nat) : Nat := lZ A (wS ts x [2]) ||| gG x
theorem pK {x:Pnt}(h:aQ x < 62):Sm (gG x):=by
 unfold gG;split
 ·exact Sm.pow (by omega)
 ·infer_instance
theorem pU (ts:List Int) (x:Pnt) (v:Int):0 ≤ aV ts x v ∧ aV ts x v ≤ 3:=by
 unfold aV;grind
theorem WG.set {ts:List Int}{pts:List Pnt}(h:WG ts pts) (i:Nat) (hi:i < pts.length):aQ pts[i]! < ts.length ∧ (0 ≤ aQ pts[i]! ∨ aQ pts[i]! = -1):=by
 have := h.x i hi
 have := h.tl
 unfold aQ;split <;> omega
theorem oS (f:Nat → Bool) (k:Nat) (h:f k = true):dY f k ||| 2 ^ k = dY f (k + 1) := by rw [dY,if_pos h]
theorem kL (f:Nat → Bool) (k:Nat) (h:f k = false):dY f k = dY f (k + 1) := by rw [dY,if_neg (by simp [h]),Nat.or_zero]
theorem jD {i:Nat}{hs:List (Nat × Option (List AV))}{id:Nat}{cs:List AV}(h:aO ((i,none) :: hs) id = some cs):aO hs id = some cs ∧ id ≠ i:=by
 rw [bU] at h
 split at h
 ·cases h
 ·rename_i e;exact ⟨h,e⟩
theorem Le.frzD {ts:List (Nat × AV)}{hs:List (Nat × Option (List AV))}{n:Nat}{z0:Lo}{d i m e:Nat}{cs:List AV}(hd:lk ts d = some (.own i 0 m e)) (hi:aO hs i = some cs) :
  Le ⟨ts,hs,n,z0⟩ ⟨(d,.imm m cs) :: ts,(i,none) :: hs,n,z0⟩ := by
 rintro C a w ⟨h0,ι,g,gh⟩
 obtain ⟨gh',car⟩ := gh.less (F' := Fn n z0) (H' := aO ((i,none) :: hs)) (fun id c h => (jD h).1) (fun _ h => h)
 refine ⟨h0,ι,⟨g.df,g.sz,fun t av ht => ?_⟩,gh'⟩
 rw [show lk (⟨(d,.imm m cs) :: ts,(i,none) :: hs,n,z0⟩ : AS).ts t = lk ((d,.imm m cs) :: ts) t from rfl,jQ] at ht
 split at ht
 ·rename_i et
  subst et
  cases ht
  obtain ⟨y,hy,hr⟩ := g.tm t _ hd
  refine ⟨y,hy,?_⟩
  simp only [Rd] at hr ⊢
  rcases hr with ⟨_,h2,a',h3⟩ | ⟨b,β,c,h1,h2,h3,h4⟩
  ·subst h2;exact ⟨a',0,h3,.inl rfl⟩
  ·refine ⟨_, c, h2, ?_⟩
   rcases Nat.eq_zero_or_pos m with h5|h5
   ·exact .inl h5
   ·refine .inr ⟨b, β + 0, h3, rfl, ?_⟩
    rcases gh.obj i cs hi with ⟨q1,q2⟩ | ⟨b',β',arr,e',q1,q2,q3,q4,q5,q6⟩
    ·rw [h1] at q1;cases q1
    ·rw [h1] at q1; cases q1
     refine .inr ⟨?_,RdC.carryB car _ _ _ (fun o x hx => hx) q4⟩
     rintro (h | ⟨id',cs',β',r1,r2⟩)
     ·exact q5 h
     ·exact (jD r1).2 (gh.sep _ _ _ _ _ _ _ (jD r1).1 hi r2 h1)
 ·obtain ⟨y, hy, hr⟩ := g.tm t av ht
  exact ⟨y,hy,Rd.carry car _ _ hr⟩
theorem Le.frzP {ts:List (Nat × AV)}{hs:List (Nat × Option (List AV))}{n:Nat}{z0:Lo}{d i:Nat}{cs:List AV}(hd:lk ts d = some (.optr i 0)) (hi:aO hs i = some cs) :
  Le ⟨ts,hs,n,z0⟩ ⟨(d,.iptr cs) :: ts,(i,none) :: hs,n,z0⟩ := by
 rintro C a w ⟨h0,ι,g,gh⟩
 obtain ⟨gh',car⟩ := gh.less (F' := Fn n z0) (H' := aO ((i,none) :: hs)) (fun id c h => (jD h).1) (fun _ h => h)
 refine ⟨h0,ι,⟨g.df,g.sz,fun t av ht => ?_⟩,gh'⟩
 rw [show lk (⟨(d,.iptr cs) :: ts,(i,none) :: hs,n,z0⟩ : AS).ts t = lk ((d,.iptr cs) :: ts) t from rfl,jQ] at ht
 split at ht
 ·rename_i et
  subst et
  cases ht
  obtain ⟨y,hy,hr⟩ := g.tm t _ hd
  refine ⟨y,hy,?_⟩
  simp only [Rd] at hr ⊢
  obtain ⟨b,β,h1,h2⟩ := hr
  refine ⟨b,β + 0,h2,?_⟩
  rcases gh.obj i cs hi with ⟨q1,q2⟩ | ⟨b',β',arr,e',q1,q2,q3,q4,q5,q6⟩
  ·rw [h1] at q1;cases q1
  ·rw [h1] at q1; cases q1
   refine .inr ⟨?_,RdC.carryB car _ _ _ (fun o x hx => hx) q4⟩
   rintro (h | ⟨id',cs',β',r1,r2⟩)
   ·exact q5 h
   ·exact (jD r1).2 (gh.sep _ _ _ _ _ _ _ (jD r1).1 hi r2 h1)
 ·obtain ⟨y, hy, hr⟩ := g.tm t av ht
  exact ⟨y,hy,Rd.carry car _ _ hr⟩
theorem Le.nilOwn {ts:List (Nat × AV)}{hs:List (Nat × Option (List AV))}{n:Nat}{z0:Lo}{d:Nat}(e:Nat) (hd:lk ts d = some (.v (.slice none 0 0))) (hn:n < aT) :
  Le ⟨ts,hs,n,z0⟩ ⟨(d,.own n 0 0 e) :: ts,(n,some []) :: hs,n + 1,z0⟩ := by
 rintro C a w ⟨h0,ι,g,gh⟩
 have hf : ι n = none := gh.fresh n ⟨Nat.le_refl _,.inl hn⟩
 let ι' : Pl := c8 ι n (some none)
 have hne : ∀ id p, ι id = some p → ι' id = some p := by
  intro id p h
  have : id ≠ n := by rintro rfl;rw [hf] at h;cases h
  simp only [ι',aX _ _ this,h]
 have hback : ∀ id b β, ι' id = some (some (b, β)) → id ≠ n ∧ ι id = some (some (b, β)) := by
  intro id b β h
  by_cases q : id = n
  ·subst q;simp only [ι',upd_same] at h;cases h
  ·simp only [ι',aX _ _ q] at h;exact ⟨q,h⟩
 have hH : ∀ id cs, id ≠ n → aO ((n, some []) :: hs) id = some cs → aO hs id = some cs := by
  intro id cs q h;rw [bU,if_neg q] at h;exact h
 have car : Carry w (aE C.X ι (aO hs)) ι w (aE C.X ι' (aO ((n, some []) :: hs))) ι' := by
  refine ⟨fun b o x h1 h2 => ⟨?_,h2⟩,hne,fun _ => Nat.le_refl _⟩
  rintro (h | ⟨id,cs,β,q1,q2⟩)
  ·exact h1 (.inl h)
  ·obtain ⟨r1, r2⟩ := hback _ _ _ q2
   exact h1 (.inr ⟨id,cs,β,hH _ _ r1 q1,r2⟩)
 refine ⟨h0,ι',⟨g.df,g.sz,fun t av ht => ?_⟩,⟨fun id cs h => ?_,fun id id' cs cs' b β β' q1 q2 q3 q4 => ?_,gh.fr,fun id p h => hne _ _ (gh.ex _ _ h),fun id h => ?_⟩⟩
 ·rw [show lk (⟨(d, .own n 0 0 e) :: ts, (n, some []) :: hs, n + 1, z0⟩ : AS).ts t = lk ((d, .own n 0 0 e) :: ts) t from rfl, jQ] at ht
  split at ht
  ·rename_i et
   subst et
   cases ht
   obtain ⟨y,hy,hr⟩ := g.tm t _ hd
   refine ⟨y,hy,?_⟩
   simp only [Rd] at hr ⊢
   exact .inl ⟨⟨none,by simp only [ι',upd_same]⟩,trivial,none,hr⟩
  ·obtain ⟨y, hy, hr⟩ := g.tm t av ht
   exact ⟨y,hy,Rd.carry car _ _ hr⟩
 ·by_cases q : id = n
  ·subst q
   simp only [bU,if_true,Option.some.injEq] at h
   exact .inl ⟨by simp only [ι',upd_same],h.symm⟩
  ·rcases gh.obj id cs (hH _ _ q h) with ⟨r1, r2⟩ | ⟨b, β, arr, e', r1, r2, r3, r4, r5, r6⟩
   ·exact .inl ⟨hne _ _ r1,r2⟩
   ·exact .inr ⟨b,β,arr,e',hne _ _ r1,r2,r3,RdC.carryB car _ _ _ (fun o x hx => hx) r4,r5,r6⟩
 ·obtain ⟨r1, r2⟩ := hback _ _ _ q3
  obtain ⟨r3,r4⟩ := hback _ _ _ q4
  exact gh.sep _ _ _ _ _ _ _ (hH _ _ r1 q1) (hH _ _ r3 q2) r2 r4
 ·have h1 : n + 1 ≤ id := h.1
  have h2 : id < aT ∨ z0.fb ≤ id := h.2
  have q : id ≠ n := by omega
  simp only [ι',aX _ _ q]
  exact gh.fresh id ⟨by show n ≤ id;omega,h2⟩
variable {P : Program} {N : Nat} {Q : Exit → AS → Prop} {all : Array Oper} {rest : List Oper} {ts : List (Nat × AV)} {hs : List (Nat × Option (List AV))} {n : Nat} {z0 : Lo} {md : Md}
variable {d : Nat} {ty : TypeId} {pos : String} {af : Array Edge}
section
theorem eG {l:List Oper}{s s':AS}(h:RW P N all Q .txt l s') (k:Le s s'):RW P N all Q .txt l s := fun C a w hN g => h C a w hN (k C a w g)
theorem Le.trans {s s' s'':AS}(h:Le s s') (k:Le s' s''):Le s s'' := fun C a w g => k C a w (h C a w g)
theorem Le.frzTop {ts:List (Nat × AV)}{hs:List (Nat × Option (List AV))}{n:Nat}{z0:Lo}{d i m e:Nat}{cs:List AV} :
  Le ⟨(d,.own i 0 m e) :: ts,(i,some cs) :: hs,n,z0⟩ ⟨(d,.imm m cs) :: ts,(i,none) :: hs,n,z0⟩ := by
 refine (Le.frzD (d := d) (i := i) (m := m) (e := e) (cs := cs) (by simp [jQ]) (by simp [bU])).trans ?_
 refine Le.of (fun t av h => ?_) (fun j c h => ?_) (Nat.le_refl _) rfl
 ·show lk ((d, .imm m cs) :: (d, .own i 0 m e) :: ts) t = _
  have h' : lk ((d,.imm m cs) :: ts) t = some av := h
  simp only [jQ] at h' ⊢
  split
  ·rename_i q;rw [if_pos q] at h'; exact h'
  ·rename_i q;rw [if_neg q] at h'; exact h'
 ·show aO ((i, none) :: (i, some cs) :: hs) j = _
  have h' : aO ((i,none) :: hs) j = some c := h
  simp only [bU] at h' ⊢
  split
  ·rename_i q;rw [if_pos q] at h'; exact h'
  ·rename_i q;rw [if_neg q] at h'; exact h'
theorem aL {t el len e:Nat}{parts:Array (Nat × Operand)}{zs:List Value}{l:List (Nat × AV)}{cs:List AV}[ht:SlT P t el] [he:SzT P el e] [hz:ZrT P el zs] (hze:zs.length = e) (hsm:Nat.ble (len * e) 16777216 = true)
  (hl : evs (lk ts) parts.toList = some l) (hfl : gC (fun i => some (i * e,e)) ((List.replicate len (zs.map .v)).flatten) l = some cs) (hM : Nat.blt n aT = true) (hN : Nat.blt d N = true) (kk : RW P N all Q .txt rest ⟨(d,.imm len cs) :: ts,(n,none) :: hs,n + 1,z0⟩) :
  RW P N all Q .txt (⟨some d,.buildSlice t len parts,ty,pos,af,none⟩ :: rest) ⟨ts,hs,n,z0⟩ :=
 lY hze hsm hl hfl hM hN (md' := .txt) (eG kk Le.frzTop)
end
theorem Le.mv {ts:List (Nat × AV)}{hs:List (Nat × Option (List AV))}{n:Nat}{z0:Lo}{d i o m e:Nat}{cs:List AV}(hd:lk ts d = some (.own i o m e)) (hi:aO hs i = some cs) (hn:n < aT) :
  Le ⟨ts,hs,n,z0⟩ ⟨(d,.own n o m e) :: ts,(n,some cs) :: (i,none) :: hs,n + 1,z0⟩ := by
 rintro C a w ⟨h0,ι,g,gh⟩
 have hf : ι n = none := gh.fresh n ⟨Nat.le_refl _,.inl hn⟩
 have hin : ∃ p, ι i = some p := by
  rcases gh.obj i cs hi with ⟨r1,_⟩ | ⟨b,β,_,_,r1,_⟩
  ·exact ⟨_,r1⟩
  ·exact ⟨_,r1⟩
 obtain ⟨pi,hpi⟩ := hin
 have hni : n ≠ i := by rintro rfl;rw [hf] at hpi;cases hpi
 let ι' : Pl := c8 ι n (ι i)
 have hnn : ι' n = ι i := by simp only [ι',upd_same]
 have hne' : ∀ id,id ≠ n → ι' id = ι id := fun id h => by simp only [ι',aX _ _ h]
 have hne : ∀ id p, ι id = some p → ι' id = some p := by
  intro id p h
  have : id ≠ n := by rintro rfl;rw [hf] at h;cases h
  rw [hne' _ this,h]
 -- the objects of the new state, under their old ids
 let σ : Nat → Nat := fun id => if id = n then i else id
 have hσ : ∀ id c, aO ((n, some cs) :: (i, none) :: hs) id = some c → aO hs (σ id) = some c ∧ ι' id = ι (σ id) ∧ (id = n ∨ id ≠ i) := by
  intro id c h
  simp only [bU] at h
  by_cases q : id = n
  ·subst q
   rw [if_pos rfl] at h;cases h
   exact ⟨by simp only [σ,if_true]; exact hi,by simp only [σ,if_true]; exact hnn,.inl rfl⟩
  ·rw [if_neg q] at h
   by_cases q2 : id = i
   ·rw [if_pos q2] at h;cases h
   ·rw [if_neg q2] at h
    exact ⟨by simp only [σ,if_neg q]; exact h,by simp only [σ,if_neg q]; exact hne' _ q,.inr q2⟩
 have car : Carry w (aE C.X ι (aO hs)) ι w (aE C.X ι' (aO ((n, some cs) :: (i, none) :: hs))) ι' := by
  refine ⟨fun b o x h1 h2 => ⟨?_,h2⟩,hne,fun _ => Nat.le_refl _⟩
  rintro (h | ⟨id,c,β,q1,q2⟩)
  ·exact h1 (.inl h)
  ·obtain ⟨r1, r2, _⟩ := hσ id c q1
   exact h1 (.inr ⟨σ id,c,β,r1,by rw [← r2]; exact q2⟩)
 refine ⟨h0,ι',⟨g.df,g.sz,fun t av ht => ?_⟩,⟨fun id c h => ?_,fun id id' c c' b β β' q1 q2 q3 q4 => ?_,gh.fr,fun id p h => hne _ _ (gh.ex _ _ h),fun id h => ?_⟩⟩
 ·have ht' : lk ((d, .own n o m e) :: ts) t = some av := ht
  rw [jQ] at ht'
  split at ht'
  ·rename_i et
   subst et
   cases ht'
   obtain ⟨y,hy,hr⟩ := g.tm t _ hd
   refine ⟨y,hy,?_⟩
   have hr' := Rd.carry car _ _ hr
   simp only [Rd,hnn] at hr' ⊢
   rw [hne' i (fun h => hni h.symm)] at hr'
   exact hr'
  ·obtain ⟨y, hy, hr⟩ := g.tm t av ht'
   exact ⟨y,hy,Rd.carry car _ _ hr⟩
 ·obtain ⟨r1, r2, _⟩ := hσ id c h
  rcases gh.obj _ c r1 with ⟨s1,s2⟩ | ⟨b,β,arr,e',s1,s2,s3,s4,s5,s6⟩
  ·exact .inl ⟨by rw [r2]; exact s1,s2⟩
  ·exact .inr ⟨b,β,arr,e',by rw [r2]; exact s1,s2,s3,RdC.carryB car _ _ _ (fun o x hx => hx) s4,s5,s6⟩
 ·obtain ⟨r1, r2, r3⟩ := hσ id c q1
  obtain ⟨t1,t2,t3⟩ := hσ id' c' q2
  have := gh.sep _ _ _ _ _ _ _ r1 t1 (by rw [← r2]; exact q3) (by rw [← t2]; exact q4)
  simp only [σ] at this
  split at this <;> split at this
  ·omega
  ·rename_i u1 u2; rcases t3 with t3 | t3
   ·exact absurd t3 u2
   ·exact absurd this.symm t3
  ·rename_i u1 u2; rcases r3 with r3 | r3
   ·exact absurd r3 u1
   ·exact absurd this r3
  ·exact this
 ·have h1 : n + 1 ≤ id := h.1
  have h2 : id < aT ∨ z0.fb ≤ id := h.2
  rw [hne' id (by omega)]
  exact gh.fresh id ⟨by show n ≤ id;omega,h2⟩
theorem Le.slot {ts:List (Nat × AV)}{hs:List (Nat × Option (List AV))}{n:Nat}{z0:Lo}{d:Nat}{v v':AV}(hd:lk ts d = some v) (h:∀ (w:World) (bad:Nat → Prop) (ι:Pl) (y:Value),Rd w bad ι v y → Rd w bad ι v' y) :
  Le ⟨ts,hs,n,z0⟩ ⟨(d,v') :: ts,hs,n,z0⟩ := by
 rintro C a w ⟨h0,ι,g,gh⟩
 refine ⟨h0,ι,⟨g.df,g.sz,fun t av ht => ?_⟩,gh⟩
 have ht' : lk ((d,v') :: ts) t = some av := ht
 rw [jQ] at ht'
 split at ht'
 ·rename_i et
  subst et
  cases ht'
  obtain ⟨y,hy,hr⟩ := g.tm t _ hd
  exact ⟨y,hy,h _ _ _ _ hr⟩
 ·exact g.tm t av ht'
theorem Le.nilImm {ts:List (Nat × AV)}{hs:List (Nat × Option (List AV))}{n:Nat}{z0:Lo}{d:Nat}(hd:lk ts d = some (.v (.slice none 0 0))):Le ⟨ts,hs,n,z0⟩ ⟨(d,.imm 0 []) :: ts,hs,n,z0⟩ :=
 Le.slot hd fun w bad ι y h => mG (av := .v (.slice none 0 0)) h
theorem CM {α:Type}{f:α → List AV}{hs:List (Nat × Option (List AV))}{i:Nat}(h:aO hs i = some []):aO hs i = some (flat f []) := h
abbrev mM (a s : Nat) : Nat := a ||| s
abbrev IT (a s : Nat) : Nat := a &&& s
def jR (op : Nat → Nat → Nat) (s0 : Nat) (s : List Nat × Bool) (k : Nat) : List Nat × Bool :=
 if op s.1[k]! s0 ≠ s.1[k]! then (s.1.set k (op s.1[k]! s0),true) else s
def rU (pts : List Pnt) (i : Nat) : List Nat := pts[i]!.next.map (·.toNat)
def tN (op : Nat → Nat → Nat) (F : Nat → Nat → Nat) (pts : List Pnt) (s : List Nat × Bool) (i : Nat) : List Nat × Bool := (rU pts i).foldl (jR op (F i s.1[i]!)) s
def uA (op : Nat → Nat → Nat) (F : Nat → Nat → Nat) (pts : List Pnt) (s : List Nat × Bool) : List Nat × Bool := (List.range pts.length).foldl (tN op F pts) s
theorem cM {α:Type}[Inhabited α] (l:List α) (k i:Nat) (x:α) (h:k < l.length):(l.set k x)[i]! = if i = k then x else l[i]!:=by
 by_cases e : i = k
 ·subst e;rw [if_pos rfl,aW _ _ (by simpa using h),List.getElem_set_self]
 ·rw [if_neg e]
  simp only [List.getElem!_eq_getElem?_getD,List.getElem?_set_ne (Ne.symm e)]
theorem nE {ts:List Int}{pts:List Pnt}(w:WG ts pts){i k:Nat}(hi:i < pts.length):k ∈ rU pts i ↔ cE pts i k:=by
 unfold rU cE
 rw [List.mem_map]
 constructor
 ·rintro ⟨z, hz, rfl⟩
  have := w.nx i hi z hz
  exact ⟨hi,by rw [Int.toNat_of_nonneg this.1]; exact hz⟩
 ·rintro ⟨_,h⟩; exact ⟨_,h,rfl⟩
theorem cQ {ts:List Int}{pts:List Pnt}(w:WG ts pts){i k:Nat}(h:cE pts i k):k < pts.length:=by
 have := w.nx i h.1 _ h.2;omega
structure Flow (op : Nat → Nat → Nat) (F : Nat → Nat → Nat) (pts : List Pnt) (g : Nat → Nat) (Pp : Nat → Nat → Prop) : Prop where
 snd : ∀ i k A B,cE pts i k → Pp i A → Pp k B → Pp k (op B (F i A))
 dec : ∀ i k A B,cE pts i k → Pp i A → Pp k B → op B (F i A) ≠ B → g (op B (F i A)) < g B
def SG (pts : List Pnt) (Pp : Nat → Nat → Prop) (l : List Nat) : Prop := l.length = pts.length ∧ ∀ i,i < pts.length → Pp i l[i]!
theorem Eu {op:Nat → Nat → Nat}{F:Nat → Nat → Nat}{pts:List Pnt}{g:Nat → Nat}{Pp:Nat → Nat → Prop}(f:Flow op F pts g Pp){i k A:Nat}(hA:Pp i A) (e:cE pts i k) (hk:k < pts.length) (s:List Nat) (b:Bool) (h:SG pts Pp s) :
  SG pts Pp (jR op (F i A) (s,b) k).1 ∧ ((jR op (F i A) (s,b) k = (s,b) ∧ op s[k]! (F i A) = s[k]!) ∨ ((jR op (F i A) (s,b) k).2 = true ∧ eH ((jR op (F i A) (s,b) k).1.map g) < eH (s.map g))) := by
 unfold jR
 dsimp only
 have hks : k < s.length := by rw [h.1]; exact hk
 by_cases hc : op s[k]! (F i A) ≠ s[k]!
 ·rw [if_pos hc]
  refine ⟨⟨by simp [h.1],fun j hj => ?_⟩,.inr ⟨rfl,?_⟩⟩
  ·dsimp only
   rw [cM _ _ _ _ hks]
   split
   ·rename_i q;subst q;exact f.snd _ _ _ _ e hA (h.2 j hj)
   ·exact h.2 j hj
  ·have := nC g s k (op s[k]! (F i A)) hks
   have h2 := f.dec i k A s[k]! e hA (h.2 k hk) hc
   dsimp only;omega
 ·rw [if_neg hc]
  exact ⟨h,.inl ⟨rfl,by simpa using hc⟩⟩
theorem Ei {ts:List Int}{op:Nat → Nat → Nat}{F:Nat → Nat → Nat}{pts:List Pnt}{g:Nat → Nat}{Pp:Nat → Nat → Prop}(w:WG ts pts) (f:Flow op F pts g Pp) (s:List Nat) (b:Bool) (i:Nat) (hi:i < pts.length) (h:SG pts Pp s) :
  SG pts Pp (tN op F pts (s,b) i).1 ∧ ((tN op F pts (s,b) i = (s,b) ∧ ∀ k,cE pts i k → op s[k]! (F i s[i]!) = s[k]!) ∨ ((tN op F pts (s,b) i).2 = true ∧ eH ((tN op F pts (s,b) i).1.map g) < eH (s.map g))) := by
 have hA := h.2 i hi
 have := hG (jR op (F i s[i]!)) (fun k l => op l[k]! (F i s[i]!) = l[k]!) (fun l => eH (l.map g)) (SG pts Pp) (rU pts i)
  (fun s' b' k hk hs => by
   have e := (nE w hi).1 hk
   exact Eu f hA e (cQ w e) s' b' hs) s b h
 refine ⟨this.1,?_⟩
 rcases this.2 with ⟨e1,e2⟩|h2
 ·exact .inl ⟨e1,fun k e => e2 k ((nE w hi).2 e)⟩
 ·exact .inr h2
def jK (op : Nat → Nat → Nat) (F : Nat → Nat → Nat) (pts : List Pnt) (s : List Nat) : Prop := ∀ i k,cE pts i k → op s[k]! (F i s[i]!) = s[k]!
theorem rJ {ts:List Int}{op:Nat → Nat → Nat}{F:Nat → Nat → Nat}{pts:List Pnt}{g:Nat → Nat}{Pp:Nat → Nat → Prop}(w:WG ts pts) (f:Flow op F pts g Pp) (s:List Nat) (b:Bool) (h:SG pts Pp s) :
  SG pts Pp (uA op F pts (s,b)).1 ∧ ((uA op F pts (s,b) = (s,b) ∧ jK op F pts s) ∨ ((uA op F pts (s,b)).2 = true ∧ eH ((uA op F pts (s,b)).1.map g) < eH (s.map g))) := by
 have := hG (tN op F pts) (fun i l => ∀ k, cE pts i k → op l[k]! (F i l[i]!) = l[k]!) (fun l => eH (l.map g)) (SG pts Pp) (List.range pts.length)
  (fun s' b' i hi hs => Ei w f s' b' i (List.mem_range.1 hi) hs) s b h
 refine ⟨this.1,?_⟩
 rcases this.2 with ⟨e1,e2⟩|h2
 ·exact .inl ⟨e1,fun i k e => e2 i (List.mem_range.2 e.1) k e⟩
 ·exact .inr h2
theorem kJ {a b:Nat}(h:a ||| b ≠ a):a < a ||| b:=by
 have := @Nat.left_le_or a b;omega
theorem vO {a b:Nat}(h:a &&& b ≠ a):a &&& b < a:=by
 have := @Nat.and_le_left a b;omega
theorem eV {a b:Nat}:a ||| b = a ↔ ∀ v,b.testBit v = true → a.testBit v = true:=by
 constructor
 ·intro h v hv;rw [← h,Nat.testBit_or,hv]; simp
 ·intro h
  apply Nat.eq_of_testBit_eq;intro v
  rw [Nat.testBit_or]
  cases hb : b.testBit v with
  | false => simp
  | true => rw [h v hb]; rfl
theorem p8 {a b:Nat}:a &&& b = a ↔ ∀ v,a.testBit v = true → b.testBit v = true:=by
 constructor
 ·intro h v hv;rw [← h,Nat.testBit_and,Bool.and_eq_true] at hv;exact hv.2
 ·intro h
  apply Nat.eq_of_testBit_eq;intro v
  rw [Nat.testBit_and]
  cases ha : a.testBit v with
  | false => simp
  | true => rw [h v ha]; rfl
theorem b6 {a n:Nat}(h:a < 2 ^ n){v:Nat}(hv:a.testBit v = true):v < n:=by
 rcases Nat.lt_or_ge v n with h1|h1
 ·exact h1
 ·rw [Nat.testBit_lt_two_pow (Nat.lt_of_lt_of_le h (Nat.pow_le_pow_right (by decide) h1))] at hv;cases hv
theorem yO {ts:List Int}{pts:List Pnt}(w:WG ts pts){i:Nat}(hi:i < pts.length){v:Nat}(h:aV ts pts[i]! v ≠ 0):v < ts.length:=by
 have h1 := w.x i hi
 have h2 := w.y i hi
 unfold aV at h
 grind
theorem cK {ts:List Int}{x:Pnt}{us:List Int}{v:Nat}:(wS ts x us).testBit v = (decide (v < ts.length) && decide (aV ts x v ∈ us)) := dZ _ _ _
theorem eY {x:Pnt}{v:Nat}(h:aQ x < 62):(gG x).testBit v = decide (aQ x = (v:Int)):=by
 unfold gG
 split
 ·rename_i h0
  by_cases e : v = (aQ x).toNat
  ·subst e;rw [Nat.testBit_two_pow_self]; simp;omega
  ·rw [Nat.testBit_two_pow_of_ne (fun h => e h.symm)]; simp;omega
 ·simp;omega
theorem dG {ts:List Int}{x:Pnt}{A v:Nat}(h:aQ x < 62):(fW ts x A).testBit v = ((A.testBit v && !(decide (v < ts.length) && decide (aV ts x v = 2))) || decide (aQ x = (v:Int))):=by
 unfold fW
 rw [Nat.testBit_or,cU,cK,eY h]
 simp
def oR (ts : List Int) (pts : List Pnt) (A : List Nat) : Prop := A.length = pts.length ∧ ∀ i,i < pts.length → ∀ v,A[i]!.testBit v = true ↔ Mb ts pts (i,v)
def oW (ts : List Int) (pts : List Pnt) (A : List Nat) : Prop := A.length = pts.length ∧ ∀ i,i < pts.length → ∀ v,A[i]!.testBit v = true ↔ v < ts.length ∧ ¬ Na ts pts (i,v)
theorem iX {n:Nat}{A B:List Nat}(h1:A.length = n) (h2:B.length = n) (h:∀ i,i < n → ∀ v,A[i]!.testBit v = true ↔ B[i]!.testBit v = true):A = B:=by
 apply List.ext_getElem (by omega)
 intro i g1 g2
 have := h i (by omega)
 rw [aW _ _ g1,aW _ _ g2] at this
 apply Nat.eq_of_testBit_eq
 intro v
 rw [Bool.eq_iff_iff]; exact this v
def KN (ts : List Int) (pts : List Pnt) (i A : Nat) : Prop := A < 2 ^ ts.length ∧ ∀ v,A.testBit v = true → Mb ts pts (i,v)
def Kg (ts : List Int) (pts : List Pnt) (i A : Nat) : Prop := A < 2 ^ ts.length ∧ ∀ v,v < ts.length → A.testBit v = false → Na ts pts (i,v)
theorem pI {ts:List Int}{pts:List Pnt}(w:WG ts pts){i:Nat}(hi:i < pts.length){A:Nat}(hA:A < 2 ^ ts.length):fW ts pts[i]! A < 2 ^ ts.length:=by
 apply Nat.lt_pow_two_of_testBit
 intro v hv
 have hs := (w.set i hi).1
 have htl := w.tl
 rw [dG (by omega)]
 have : A.testBit v = false := by
  cases h : A.testBit v with
  | false => rfl
  | true => have := b6 hA h;omega
 rw [this,Bool.false_and,Bool.false_or,decide_eq_false_iff_not]; omega
theorem KB {ts:List Int}{pts:List Pnt}(w:WG ts pts):Flow (fun a s => a ||| s) (fun i A => fW ts pts[i]! A) pts (fun a => 2 ^ ts.length - a) (KN ts pts):=by
 refine ⟨fun i k A B e hA hB => ⟨Nat.or_lt_two_pow hB.1 (pI w e.1 hA.1),fun v hv => ?_⟩,fun i k A B e hA hB hne => ?_⟩
 ·have hs := (w.set i e.1).1
  have htl := w.tl
  rw [Nat.testBit_or,Bool.or_eq_true] at hv
  rcases hv with hv|hv
  ·exact hB.2 v hv
  ·rw [dG (by omega)] at hv
   simp only [Bool.or_eq_true,Bool.and_eq_true,Bool.not_eq_true',Bool.and_eq_false_iff,decide_eq_true_eq,decide_eq_false_iff_not] at hv
   rcases hv with ⟨h1,h2⟩|h1
   ·refine .step (hA.2 v h1) ⟨rfl, e, ?_⟩
    have := b6 hA.1 h1
    rcases h2 with h2|h2
    ·omega
    ·exact h2
   ·exact .base ⟨i,e,h1⟩
 ·have h1 := kJ hne
  have h2 := Nat.or_lt_two_pow hB.1 (pI w e.1 hA.1)
  omega
theorem KS {ts:List Int}{pts:List Pnt}(w:WG ts pts):Flow (fun a s => a &&& s) (fun i A => fW ts pts[i]! A) pts (fun a => a) (Kg ts pts):=by
 refine ⟨fun i k A B e hA hB => ⟨Nat.lt_of_le_of_lt Nat.and_le_left hB.1,fun v hv hf => ?_⟩,fun i k A B e hA hB hne => vO hne⟩
 have hs := (w.set i e.1).1
 have htl := w.tl
 rw [Nat.testBit_and,Bool.and_eq_false_iff] at hf
 rcases hf with hf|hf
 ·exact hB.2 v hv hf
 ·rw [dG (by omega)] at hf
  simp only [Bool.or_eq_false_iff,Bool.and_eq_false_iff,Bool.not_eq_false',Bool.and_eq_true,decide_eq_true_eq,decide_eq_false_iff_not] at hf
  obtain ⟨h1|h1,h2⟩ := hf
  ·exact .step (hA.2 v hv h1) ⟨rfl,e,h2⟩
  ·exact .base ⟨hv,.inr ⟨i,e,h1.2,h2⟩⟩
theorem Gc {ts:List Int}{pts:List Pnt}(w:WG ts pts){A:List Nat}(h:SG pts (KN ts pts) A) (hc:jK (fun a s => a ||| s) (fun i A => fW ts pts[i]! A) pts A):oR ts pts A:=by
 refine ⟨h.1,fun i hi v => ⟨fun hv => (h.2 i hi).2 v hv,fun hm => ?_⟩⟩
 have htl := w.tl
 have key : ∀ a : Nat × Nat, Mb ts pts a → A[a.1]!.testBit a.2 = true := by
  refine Clo.sub (T := fun a : Nat × Nat => A[a.1]!.testBit a.2 = true) ?_ ?_
  ·rintro ⟨k, v⟩ ⟨i, e, hs⟩
   have h1 := (w.set i e.1).1
   refine eV.1 (hc i k e) v ?_
   rw [dG (by omega)]; simp only [Bool.or_eq_true,decide_eq_true_eq]; exact .inr hs
  ·rintro ⟨i, v⟩ ⟨k, v'⟩ ht ⟨rfl, e, hu⟩
   have h1 := (w.set i e.1).1
   refine eV.1 (hc i k e) v' ?_
   dsimp only at ht hu
   rw [dG (by omega),ht]; grind
 exact key (i,v) hm
theorem EC {ts:List Int}{pts:List Pnt}(w:WG ts pts){A:List Nat}(h:SG pts (Kg ts pts) A) (h0:A[0]! = 0) (hc:jK (fun a s => a &&& s) (fun i A => fW ts pts[i]! A) pts A):oW ts pts A:=by
 refine ⟨h.1,fun i hi v => ?_⟩
 have htl := w.tl
 have key : ∀ a : Nat × Nat, Na ts pts a → A[a.1]!.testBit a.2 = false := by
  refine Clo.sub (T := fun a : Nat × Nat => A[a.1]!.testBit a.2 = false) ?_ ?_
  ·rintro ⟨k, v⟩ ⟨hv, h1 | ⟨i, e, hu, hs⟩⟩
   ·dsimp only at h1 ⊢; rw [h1,h0]; simp
   ·have h1 := (w.set i e.1).1
    dsimp only at hu hs hv ⊢
    cases hq : A[k]!.testBit v with
    | false => rfl
    | true =>
     have := p8.1 (hc i k e) v hq
     rw [dG (by omega)] at this
     grind
  ·rintro ⟨i, v⟩ ⟨k, v'⟩ ht ⟨rfl, e, hs⟩
   have h1 := (w.set i e.1).1
   dsimp only at ht hs ⊢
   cases hq : A[k]!.testBit v' with
   | false => rfl
   | true =>
    have := p8.1 (hc i k e) v' hq
    rw [dG (by omega),ht] at this
    grind
 constructor
 ·intro hv
  refine ⟨b6 (h.2 i hi).1 hv,fun hn => ?_⟩
  have := key (i,v) hn
  dsimp only at this;rw [hv] at this;cases this
 ·rintro ⟨hv, hn⟩
  cases hq : A[i]!.testBit v with
  | true => rfl
  | false => exact absurd ((h.2 i hi).2 v hv hq) hn
theorem p7 {ts:List Int}{pts:List Pnt}{Pp:Nat → Nat → Prop}{l:List Nat}(h:SG pts Pp l) (hp:∀ i A,Pp i A → A < 2 ^ ts.length) (htl:ts.length ≤ 6) (z:Nat):Sm l[z]!:=by
 by_cases hz : z < pts.length
 ·exact ⟨Nat.lt_of_lt_of_le (hp _ _ (h.2 z hz)) (Nat.pow_le_pow_right (by decide) (by omega))⟩
 ·rw [getElem!_neg _ _ (by rw [h.1]; exact hz)]; exact ⟨by decide⟩
theorem vX {pts:List Pnt}{i j:Nat}(h:j < pts[i]!.next.length):(rU pts i)[j]! = (pts[i]!.next[j]!).toNat:=by
 unfold rU
 rw [aW _ _ (by simpa using h),aW _ _ h,List.getElem_map]
theorem dC {σ:Type}(f:σ → Nat → σ) (s:σ) (k:Nat):(List.range (k + 1)).foldl f s = f ((List.range k).foldl f s) k:=by
 rw [List.range_succ,List.foldl_append]; rfl
theorem gM {op:Nat → Nat → Nat}{s0:Nat}{pts:List Pnt}{i j:Nat}(h:j < pts[i]!.next.length) (s:List Nat × Bool) :
  ((rU pts i).take (j + 1)).foldl (jR op s0) s = jR op s0 (((rU pts i).take j).foldl (jR op s0) s) (pts[i]!.next[j]!).toNat := by
 have hl : j < (rU pts i).length := by unfold rU;simpa using h
 rw [cX _ _ _ _ hl,vX h]
theorem jN (pts:List Pnt) (i:Nat):(rU pts i).length = pts[i]!.next.length := by unfold rU;simp
theorem uW {op:Nat → Nat → Nat}{s0:Nat}{s:List Nat}{b:Bool}{k:Nat}(h:op s[k]! s0 ≠ s[k]!):jR op s0 (s,b) k = (s.set k (op s[k]! s0),true) := by unfold jR;rw [if_pos h]
theorem uN {op:Nat → Nat → Nat}{s0:Nat}{s:List Nat}{b:Bool}{k:Nat}(h:op s[k]! s0 = s[k]!):jR op s0 (s,b) k = (s,b) := by unfold jR;rw [if_neg (fun hc => hc h)]
theorem vC {op:Nat → Nat → Nat}{F:Nat → Nat → Nat}{pts:List Pnt}{g:Nat → Nat}{Pp:Nat → Nat → Prop}(f:Flow op F pts g Pp){ts:List Int}(w:WG ts pts){i k A:Nat}(hA:Pp i A) (e:cE pts i k){s:List Nat}(h:SG pts Pp s):SG pts Pp (s.set k (op s[k]! (F i A))):=by
 refine ⟨by simp [h.1],fun j hj => ?_⟩
 rw [cM _ _ _ _ (by rw [h.1]; exact cQ w e)]
 split
 ·rename_i q;subst q;exact f.snd _ _ _ _ e hA (h.2 j hj)
 ·exact h.2 j hj
theorem A1 {pts:List Pnt}{Pp:Nat → Nat → Prop}(h:∀ i,i < pts.length → Pp i 0):SG pts Pp (List.replicate pts.length 0):=by
 refine ⟨by simp,fun i hi => ?_⟩
 rw [aW _ _ (by simpa using hi),List.getElem_replicate]; exact h i hi
theorem CJ {ts:List Int}{pts:List Pnt}{A B:List Nat}(h1:oR ts pts A) (h2:oR ts pts B):A = B := iX h1.1 h2.1 fun i hi v => (h1.2 i hi v).trans (h2.2 i hi v).symm
theorem C7 {ts:List Int}{pts:List Pnt}{A B:List Nat}(h1:oW ts pts A) (h2:oW ts pts B):A = B := iX h1.1 h2.1 fun i hi v => (h1.2 i hi v).trans (h2.2 i hi v).symm
theorem Gn {l:List Nat}{k x:Nat}(h:l[k]! = x) (hk:k < l.length):l.set k x = l:=by
 subst h;rw [aW _ _ hk]; exact List.set_getElem_self hk
theorem Hk {n k a:Nat}(h:k < n):(List.replicate k a ++ List.replicate (n - k) 0).set k a = List.replicate (k + 1) a ++ List.replicate (n - (k + 1)) 0:=by
 rw [show n - k = (n - (k + 1)) + 1 by omega,List.replicate_succ]
 have := pN (List.replicate k a) 0 a (List.replicate (n - (k + 1)) 0)
 rw [List.length_replicate] at this
 rw [this,List.replicate_succ']; simp
theorem EJ {ts:List Int}{pts:List Pnt}(w:WG ts pts){u:List Nat}(hu:u = List.replicate pts.length (2 ^ ts.length - 1)):SG pts (Kg ts pts) (u.set 0 0) ∧ (u.set 0 0)[0]! = 0:=by
 have hp0 := w.p0
 have h0 : 0 < u.length := by rw [hu]; simpa using hp0
 have hp : 0 < 2 ^ ts.length := Nat.pow_pos (by decide)
 refine ⟨⟨by simp [hu],fun i hi => ?_⟩,by rw [cM _ _ _ _ h0,if_pos rfl]⟩
 rw [cM _ _ _ _ h0]
 split
 ·rename_i e;subst e;exact ⟨hp,fun v hv _ => .base ⟨hv,.inl rfl⟩⟩
 ·rw [hu, aW _ _ (by simpa using hi), List.getElem_replicate]
  exact ⟨by omega,fun v hv hf => by rw [Nat.testBit_two_pow_sub_one] at hf;simp at hf;omega⟩
def Iy (pts : List Pnt) (B : List Nat) (i : Nat) : Nat := (rU pts i).foldl (fun a k => a ||| B[k]!) 0
def oC (ts : List Int) (pts : List Pnt) (B : List Nat) (i : Nat) : Nat := wS ts pts[i]! [1,2,3] ||| lZ (Iy pts B i) (gG pts[i]!)
theorem kV (B:List Nat) (v:Nat):∀ (L:List Nat) (a:Nat),(L.foldl (fun a k => a ||| B[k]!) a).testBit v = true ↔ a.testBit v = true ∨ ∃ k ∈ L,B[k]!.testBit v = true
 | [],a => by simp
 | k :: L, a => by
  rw [List.foldl_cons,kV B v L,Nat.testBit_or,Bool.or_eq_true]
  simp only [List.mem_cons,exists_eq_or_imp]
  grind
theorem oO {ts:List Int}{pts:List Pnt}(w:WG ts pts){B:List Nat}{i v:Nat}(hi:i < pts.length):(Iy pts B i).testBit v = true ↔ ∃ k,cE pts i k ∧ B[k]!.testBit v = true:=by
 unfold Iy
 rw [kV]
 simp only [Nat.zero_testBit,Bool.false_eq_true,false_or,nE w hi]
theorem iE {ts:List Int}{pts:List Pnt}(w:WG ts pts){B:List Nat}{i v:Nat}(hi:i < pts.length):(oC ts pts B i).testBit v = true ↔ (v < ts.length ∧ aV ts pts[i]! v ≠ 0) ∨ (aQ pts[i]! ≠ v ∧ ∃ k,cE pts i k ∧ B[k]!.testBit v = true):=by
 have hs := (w.set i hi).1
 have htl := w.tl
 have hb := pU ts pts[i]! v
 unfold oC
 rw [Nat.testBit_or,cU,cK,eY (by omega)]
 simp only [Bool.or_eq_true,Bool.and_eq_true,decide_eq_true_eq,Bool.not_eq_true',decide_eq_false_iff_not,oO w hi,List.mem_cons,List.not_mem_nil,or_false]
 have : (aV ts pts[i]! (v : Int) = 1 ∨ aV ts pts[i]! (v : Int) = 2 ∨ aV ts pts[i]! (v : Int) = 3) ↔ aV ts pts[i]! (v : Int) ≠ 0 := by omega
 rw [this]
 constructor
 ·rintro (h | ⟨h1, h2⟩)
  ·exact .inl h
  ·exact .inr ⟨h2,h1⟩
 ·rintro (h | ⟨h1, h2⟩)
  ·exact .inl h
  ·exact .inr ⟨h2,h1⟩
def Lk (ts : List Int) (pts : List Pnt) (i A : Nat) : Prop := A < 2 ^ ts.length ∧ ∀ v,A.testBit v = true → Nd ts pts (i,v)
def rE (ts : List Int) (pts : List Pnt) (A : List Nat) : Prop := A.length = pts.length ∧ ∀ i,i < pts.length → ∀ v,A[i]!.testBit v = true ↔ Nd ts pts (i,v)
theorem CX {ts:List Int}{pts:List Pnt}{A B:List Nat}(h1:rE ts pts A) (h2:rE ts pts B):A = B := iX h1.1 h2.1 fun i hi v => (h1.2 i hi v).trans (h2.2 i hi v).symm
def jW (ts : List Int) (pts : List Pnt) (s : List Nat × Bool) (i : Nat) : List Nat × Bool := if oC ts pts s.1 i ≠ s.1[i]! then (s.1.set i (oC ts pts s.1 i),true) else s
def SN (ts : List Int) (pts : List Pnt) (l : List Nat) : Prop := SG pts (Lk ts pts) l ∧ ∀ i,i < pts.length → ∀ v,l[i]!.testBit v = true → (oC ts pts l i).testBit v = true
theorem xV {ts:List Int}{pts:List Pnt}(w:WG ts pts){l l':List Nat}{i:Nat}(hi:i < pts.length) (h:∀ k,k < pts.length → ∀ v,l[k]!.testBit v = true → l'[k]!.testBit v = true){v:Nat}(hv:(oC ts pts l i).testBit v = true):(oC ts pts l' i).testBit v = true:=by
 rw [iE w hi] at hv ⊢
 rcases hv with hv | ⟨h1,k,e,h2⟩
 ·exact .inl hv
 ·exact .inr ⟨h1,k,e,h k (cQ w e) v h2⟩
theorem GG {ts:List Int}{pts:List Pnt}(w:WG ts pts){l:List Nat}{i:Nat}(hi:i < pts.length) (h:SG pts (Lk ts pts) l):Lk ts pts i (oC ts pts l i):=by
 have key : ∀ v, (oC ts pts l i).testBit v = true → v < ts.length ∧ Nd ts pts (i, v) := by
  intro v hv
  rw [iE w hi] at hv
  rcases hv with ⟨h1,h2⟩ | ⟨h1,k,e,h2⟩
  ·exact ⟨h1,.base ⟨hi,h1,h2⟩⟩
  ·have hk := h.2 k (cQ w e)
   exact ⟨b6 hk.1 h2,.step (hk.2 v h2) ⟨rfl,e,h1⟩⟩
 refine ⟨?_,fun v hv => (key v hv).2⟩
 apply Nat.lt_pow_two_of_testBit
 intro v hv
 cases hq : (oC ts pts l i).testBit v with
 | false => rfl
 | true => have := (key v hq).1;omega
theorem tA {ts:List Int}{pts:List Pnt}(w:WG ts pts) (s:List Nat) (b:Bool) (i:Nat) (hi:i < pts.length) (h:SN ts pts s) :
  SN ts pts (jW ts pts (s,b) i).1 ∧ ((jW ts pts (s,b) i = (s,b) ∧ oC ts pts s i = s[i]!) ∨ ((jW ts pts (s,b) i).2 = true ∧ eH ((jW ts pts (s,b) i).1.map (fun a => 2 ^ ts.length - a)) < eH (s.map (fun a => 2 ^ ts.length - a)))) := by
 unfold jW
 dsimp only
 have his : i < s.length := by rw [h.1.1]; exact hi
 by_cases hc : oC ts pts s i ≠ s[i]!
 ·rw [if_pos hc]
  have hp := GG w hi h.1
  have hge : ∀ k, k < pts.length → ∀ v, s[k]!.testBit v = true → ((s.set i (oC ts pts s i))[k]!).testBit v = true := by
   intro k hk v hv
   rw [cM _ _ _ _ his]
   split
   ·rename_i q;subst q;exact h.2 _ hk v hv
   ·exact hv
  refine ⟨⟨⟨by simp [h.1.1],fun j hj => ?_⟩,fun j hj v hv => ?_⟩,.inr ⟨rfl,?_⟩⟩
  ·rw [cM _ _ _ _ his]
   split
   ·rename_i q;subst q;exact hp
   ·exact h.1.2 j hj
  ·rw [cM _ _ _ _ his] at hv
   split at hv
   ·rename_i q;subst q;exact xV w hj hge hv
   ·exact xV w hj hge (h.2 j hj v hv)
  ·have h1 := nC (fun a => 2 ^ ts.length - a) s i (oC ts pts s i) his
   have h2 : s[i]! ||| oC ts pts s i = oC ts pts s i := by rw [Nat.or_comm]; exact eV.2 (h.2 i hi)
   have h3 : s[i]! < oC ts pts s i := by
    have : s[i]! ≤ oC ts pts s i := by rw [← h2]; exact Nat.left_le_or
    omega
   have h4 := hp.1
   dsimp only at h1 ⊢; omega
 ·rw [if_neg hc]
  exact ⟨h,.inl ⟨rfl,by simpa using hc⟩⟩
def w9 (ts : List Int) (pts : List Pnt) (s : List Nat × Bool) : List Nat × Bool := (List.range pts.length).reverse.foldl (jW ts pts) s
theorem Dh {ts:List Int}{pts:List Pnt}(w:WG ts pts) (s:List Nat) (b:Bool) (h:SN ts pts s) :
  SN ts pts (w9 ts pts (s,b)).1 ∧ ((w9 ts pts (s,b) = (s,b) ∧ ∀ i,i < pts.length → oC ts pts s i = s[i]!) ∨ ((w9 ts pts (s,b)).2 = true ∧ eH ((w9 ts pts (s,b)).1.map (fun a => 2 ^ ts.length - a)) < eH (s.map (fun a => 2 ^ ts.length - a)))) := by
 have := hG (jW ts pts) (fun i l => oC ts pts l i = l[i]!) (fun l => eH (l.map (fun a => 2 ^ ts.length - a))) (SN ts pts) (List.range pts.length).reverse
  (fun s' b' i hi hs => tA w s' b' i (List.mem_range.1 (List.mem_reverse.1 hi)) hs) s b h
 refine ⟨this.1,?_⟩
 rcases this.2 with ⟨e1,e2⟩|h2
 ·exact .inl ⟨e1,fun i hi => e2 i (List.mem_reverse.2 (List.mem_range.2 hi))⟩
 ·exact .inr h2
theorem Gh {ts:List Int}{pts:List Pnt}(w:WG ts pts){A:List Nat}(h:SN ts pts A) (hc:∀ i,i < pts.length → oC ts pts A i = A[i]!):rE ts pts A:=by
 refine ⟨h.1.1,fun i hi v => ⟨fun hv => (h.1.2 i hi).2 v hv,fun hm => ?_⟩⟩
 have key : ∀ a : Nat × Nat, Nd ts pts a → A[a.1]!.testBit a.2 = true := by
  refine Clo.sub (T := fun a : Nat × Nat => A[a.1]!.testBit a.2 = true) ?_ ?_
  ·rintro ⟨i, v⟩ ⟨h1, h2, h3⟩
   dsimp only at h1 h2 h3 ⊢
   rw [← hc i h1,iE w h1]; exact .inl ⟨h2,h3⟩
  ·rintro ⟨n, v⟩ ⟨i, v'⟩ ht ⟨rfl, e, hs⟩
   dsimp only at ht hs e ⊢
   rw [← hc i e.1,iE w e.1]; exact .inr ⟨hs,n,e,ht⟩
 exact key (i,v) hm
def oV (ts : List Int) (pts : List Pnt) (A : List Nat) : Prop := A.length = pts.length ∧ ∀ i,i < pts.length → ∀ v,A[i]!.testBit v = true ↔ Lv ts pts i v
theorem sY {ts:List Int}{pts:List Pnt}{A B:List Nat}(h1:oV ts pts A) (h2:oV ts pts B):A = B := iX h1.1 h2.1 fun i hi v => (h1.2 i hi v).trans (h2.2 i hi v).symm
theorem w5 {ts:List Int}{pts:List Pnt}(w:WG ts pts){A:List Nat}(h:rE ts pts A):oV ts pts ((List.range pts.length).map (Iy pts A)):=by
 refine ⟨by simp,fun i hi v => ?_⟩
 rw [aW _ _ (by simpa using hi),List.getElem_map,List.getElem_range,oO w hi]
 constructor
 ·rintro ⟨k,e,hk⟩; exact ⟨k,e,(h.2 k (cQ w e) v).1 hk⟩
 ·rintro ⟨k,e,hk⟩; exact ⟨k,e,(h.2 k (cQ w e) v).2 hk⟩
theorem yD {n k:Nat}(h:k < n):(List.range n).reverse[k]! = n - 1 - k:=by
 rw [aW _ _ (by simpa using h),List.getElem_reverse]; simp
theorem Ca {ts:List Int}{pts:List Pnt}{s:List Nat}{b:Bool}{i:Nat}(h:oC ts pts s i ≠ s[i]!):jW ts pts (s,b) i = (s.set i (oC ts pts s i),true) := by unfold jW;rw [if_pos h]
theorem Hu {ts:List Int}{pts:List Pnt}{s:List Nat}{b:Bool}{i:Nat}(h:oC ts pts s i = s[i]!):jW ts pts (s,b) i = (s,b) := by unfold jW;rw [if_neg (fun hc => hc h)]
theorem I4 {ts:List Int}{pts:List Pnt}:SN ts pts (List.replicate pts.length 0):=by
 refine ⟨A1 fun i hi => ⟨Nat.pow_pos (by decide),fun v h => by simp at h⟩,fun i hi v h => ?_⟩
 rw [aW _ _ (by simpa using hi),List.getElem_replicate] at h;simp at h
theorem qV {ts:List Int}{pts:List Pnt}(w:WG ts pts){a:Nat × Nat}(h:Nd ts pts a):a.2 < ts.length:=by
 induction h with
 | base h => exact h.2.1
 | step _ r ih => rw [r.1]; exact ih
instance (a b : List AV) [h : Pur a] [h2 : Pur b] : Pur (a ++ b):=⟨by rw [gF,h.pf,h2.pf]; rfl⟩
instance (fn : Go.Fn) (f c : List AV) [h : Pur f] [h2 : Pur c] : PurV (.clos fn f c):=⟨by simp only [AV.pur,h.pf,h2.pf,Bool.and_self]⟩
def cN (n : Nat) : List AV := [.v (.int .i64 (n : Int))]
def cW (n : Nat) : List AV := [.v (.int .u64 (n : Int))]
instance : FlT cN 1:=⟨fun _ => rfl⟩
instance : FlT cW 1:=⟨fun _ => rfl⟩
instance : FE cN (fun n => [.v (.int .i64 (n : Int))]):=⟨fun _ => rfl⟩
instance : FE cW (fun n => [.v (.int .u64 (n : Int))]):=⟨fun _ => rfl⟩
instance (n : Nat) : Pur (cN n):=⟨rfl⟩
instance (n : Nat) : Pur (cW n):=⟨rfl⟩
theorem J4 {xs:List Nat}{k:Nat}{a:Nat}(hk:k < xs.length):iQ (flat cN xs) (0 + k * 1) [.v (.int .i64 (a:Int))] = flat cN (xs.set k a) := fV hk rfl
theorem BC {xs:List Nat}{k:Nat}{a:Nat}(hk:k < xs.length):iQ (flat cW xs) (0 + k * 1) [.v (.int .u64 (a:Int))] = flat cW (xs.set k a) := fV hk rfl
theorem GL {xs:List Nat}{m:Nat}{a:Nat}(hm:m = xs.length):((flat cN xs).drop 0).take (m * 1) ++ [.v (.int .i64 (a:Int))] = flat cN (xs ++ [a]) := kO hm rfl
theorem zZ {α:Type}{f:α → List AV}{x:α}{l:List AV}{m:Nat}(h:l = f x):(List.replicate m l).flatten = flat f (List.replicate m x):=by
 subst h;simp [flat,List.flatMap_def]
theorem Ji {m:Nat}:(List.replicate m ([Value.int .i64 0].map AV.v)).flatten = flat cN (List.replicate m 0) := zZ rfl
theorem G2 {m:Nat}:(List.replicate m ([Value.int .u64 0].map AV.v)).flatten = flat cW (List.replicate m 0) := zZ rfl
theorem B6 {m:Nat}:(List.replicate m ([Value.bool false].map AV.v)).flatten = flat cB (List.replicate m false) := zZ rfl
section
theorem lW {t el e by' m:Nat}{x y:Operand}{zs:List Value}{cs:List AV}{k k':IntKind}[ht:SlT P t el] [he:SzT P el e] [hb:ByT P el by'] [hz:ZrT P el zs]
  (hx : ev (lk ts) x = some (.v (.int k (m : Int)))) (hy : ev (lk ts) y = some (.v (.int k' (m : Int)))) (hze : zs.length = e) (hsm : by' * m ≤ 281474976710656) (hmx : m ≤ 9223372036854775807)
  (hcs : (List.replicate m (zs.map .v)).flatten = cs) (hM : Nat.blt n aT = true) (hN : Nat.blt d N = true) {md' : Md} [hmd : MdA md (rO x ++ rO y) [.inr n,.inl d] md'] (kk : RW P N all Q md' rest ⟨(d,.own n 0 m e) :: ts,(n,some cs) :: hs,n + 1,z0⟩) :
  RW P N all Q md (⟨some d,.makeSlice t x y,ty,pos,af,none⟩ :: rest) ⟨ts,hs,n,z0⟩ := by
 subst hcs
 exact uO hx hy hze hsm hmx hM hN (md' := md') (hmd := hmd) kk
end
theorem Ct {H:Nat → Option (List AV)}:iG H [] = some [] := rfl
theorem AU {H:Nat → Option (List AV)}{c x:AV}{cs l:List AV}(h1:gV H c = some x) (h2:iG H cs = some l):iG H (c :: cs) = some (x :: l):=by
 simp only [iG,h1,h2]
theorem Du {H:Nat → Option (List AV)}{i m e:Nat}{cs:List AV}(h:H i = some cs) (hp:Pur cs):gV H (.own i 0 m e) = some (.imm m cs):=by
 simp only [gV,h,Option.bind_some,hp.pf,if_true,List.drop_zero]
theorem Ie {H:Nat → Option (List AV)}{x:Value}:gV H (.v x) = some (.v x) := rfl
theorem AZ {H:Nat → Option (List AV)}{cs:List AV}(hp:Pur cs):gV H (.iptr cs) = some (.iptr cs) := by simp only [gV,hp.pf,if_true]
section
theorem Ek {k:FuncId}{args:Array Operand}{tys:Array TypeId}{avs avs2:List AV}{r:AV}{md':Md}[hc:CaT P k] (ha:evL (lk ts) args.toList = some avs) (hl:iG (aO hs) avs = some avs2) (h:PC P k avs2 (fun x => x = r)) (hfr:r.free = true) (hN:Nat.blt d N = true)
  (hmd : MdA md (jU args.toList ++ rL avs) [.inl d] md') (kk : RW P N all Q md' rest ⟨(d,r) :: ts,hs,n,z0⟩) : RW P N all Q md (⟨some d,.call ⟨.value (.func k),args,tys⟩,ty,pos,af,none⟩ :: rest) ⟨ts,hs,n,z0⟩ := by
 exact GW ha hl h hfr hN (hmd := hmd) kk
end
theorem CO {k:IntKind}[hk:K6 k] (a:Nat) [ha:Sm a]:jC .and k a 1 = some (.int k ((a &&& 1:Nat):Int)) := wC a 1
section
theorem Il {k:IntKind}{t t':TypeId}{x y:Operand}{a:Nat}(hx:ev (lk ts) x = some (.v (.int k (a:Int)))) (hy:ev (lk ts) y = some (.v (.int k 1))) (hk:K6 k) (ha:Sm a)
  (hN : Nat.blt d N = true) {md' : Md} [hmd : MdA md (rO x ++ rO y) [.inl d] md'] (kk : RW P N all Q md' rest ⟨(d,.v (.int k ((a &&& 1 : Nat) : Int))) :: ts,hs,n,z0⟩) : RW P N all Q md (⟨some d,.binOp .and t x y t',ty,pos,af,none⟩ :: rest) ⟨ts,hs,n,z0⟩ :=
 gH hx hy (.inl rfl) (CO a) (dD hN) (by rw [hmd.pf]; exact kk)
end
theorem kC (A v:Nat):((A >>> v &&& 1:Nat):Int) = 1 ↔ A.testBit v = true:=by
 rw [Nat.testBit,Nat.and_comm]
 have : 1 &&& (A >>> v) = (A >>> v) % 2 := by rw [Nat.and_comm,Nat.and_one_is_mod]
 rw [this]
 have := Nat.mod_two_eq_zero_or_one (A >>> v)
 simp only [bne_iff_ne,ne_eq]
 omega
def a7 (A : Nat) : List Int := ((List.range 62).filter (A.testBit ·)).map (fun v : Nat => (v : Int))
theorem nW {A k:Nat}(h:∀ v,k ≤ v → A.testBit v = false) (hk:k ≤ 64) (hA:Sm A):a7 A = ((List.range k).filter (A.testBit ·)).map (fun v:Nat => (v:Int)):=by
 unfold a7
 congr 1
 have e : ∀ (a b : Nat), (∀ v, a ≤ v → v < a + b → A.testBit v = false) → (List.range (a + b)).filter (A.testBit ·) = (List.range a).filter (A.testBit ·) := by
  intro a b hb
  rw [List.range_add,List.filter_append]
  have : List.filter (A.testBit ·) (List.map (fun x => a + x) (List.range b)) = [] := by
   rw [List.filter_eq_nil_iff]
   intro x hx
   rw [List.mem_map] at hx
   obtain ⟨y,hy,rfl⟩ := hx
   rw [List.mem_range] at hy
   rw [hb _ (by omega) (by omega)]; simp
  rw [this,List.append_nil]
 rcases Nat.le_total k 62 with h1|h1
 ·have := e k (62 - k) (fun v h2 _ => h v h2)
  rwa [show k + (62 - k) = 62 by omega] at this
 ·have := e 62 (k - 62) (fun v h2 _ => Nat.testBit_lt_two_pow (Nat.lt_of_lt_of_le hA.pf (Nat.pow_le_pow_right (by decide) h2)))
  rw [show 62 + (k - 62) = k by omega] at this
  exact this.symm
theorem gO (p:Nat → Bool) (k:Nat):(List.range (k + 1)).filter p = (List.range k).filter p ++ (if p k = true then [k] else []):=by
 rw [List.range_succ,List.filter_append]
 congr 1
 by_cases h : p k = true <;> simp [h]
theorem dA {A:Nat}{z:Int}:z ∈ a7 A ↔ ∃ v:Nat,v < 62 ∧ A.testBit v = true ∧ z = v:=by
 unfold a7
 simp only [List.mem_map,List.mem_filter,List.mem_range]
 constructor
 ·rintro ⟨v,⟨h1,h2⟩,rfl⟩; exact ⟨v,h1,h2,rfl⟩
 ·rintro ⟨v,h1,h2,rfl⟩; exact ⟨v,⟨h1,h2⟩,rfl⟩
theorem By {A k:Nat}(hA:Sm A) (h:0 < ((A >>> k:Nat):Int)):k < 62:=by
 rcases Nat.lt_or_ge k 62 with h1|h1
 ·exact h1
 ·have : A >>> k = 0 := by rw [Nat.shiftRight_eq_div_pow]; exact Nat.div_eq_of_lt (Nat.lt_of_lt_of_le hA.pf (Nat.pow_le_pow_right (by decide) h1))
  rw [this] at h;simp at h
theorem Fm {A k:Nat}(h:((A >>> k:Nat):Int) ≤ 0) (v:Nat) (hv:k ≤ v):A.testBit v = false:=by
 have h0 : A >>> k = 0 := Nat.le_zero.1 (Int.ofNat_le.1 h)
 have : A.testBit v = (A >>> k).testBit (v - k) := by rw [Nat.testBit_shiftRight]; congr 1;omega
 rw [this,h0]; simp
theorem tB {A k:Nat}{u:List Int}(h:((A >>> k &&& 1:Nat):Int) = 1) (hu:u = ((List.range k).filter (A.testBit ·)).map (fun v:Nat => (v:Int))):u ++ [(k:Int)] = ((List.range (k + 1)).filter (A.testBit ·)).map (fun v:Nat => (v:Int)):=by
 rw [gO,if_pos ((kC A k).1 h),List.map_append,hu]; rfl
theorem sH {A k:Nat}{u:List Int}(h:¬ ((A >>> k &&& 1:Nat):Int) = 1) (hu:u = ((List.range k).filter (A.testBit ·)).map (fun v:Nat => (v:Int))):u = ((List.range (k + 1)).filter (A.testBit ·)).map (fun v:Nat => (v:Int)):=by
 rw [gO,if_neg (fun q => h ((kC A k).2 q)),List.append_nil,hu]
def o7 (pts : List Pnt) (V : Nat) : Nat := dY (fun l => bJ pts[l]! && V.testBit (pts[l]!.y.toNat)) pts.length
theorem FA {ts:List Int}{pts:List Pnt}(w:WG ts pts) (V:Nat):Sm (o7 pts V) := c6 (by have := w.pl;omega)
theorem kI {pts:List Pnt}{V l:Nat}:(o7 pts V).testBit l = (decide (l < pts.length) && (bJ pts[l]! && V.testBit (pts[l]!.y.toNat))) := dZ _ _ _
def Kd (pts : List Pnt) (i : Nat) : Nat := if bJ pts[i]! = true then 2 ^ i else 0
def tT (ts : List Int) (pts : List Pnt) (i A : Nat) : Nat := lZ A (o7 pts (wS ts pts[i]! [2] ||| gG pts[i]!)) ||| Kd pts i
theorem oD {ts:List Int}{pts:List Pnt}(w:WG ts pts){l:Nat}(hl:l < pts.length) (h:bJ pts[l]! = true):0 ≤ pts[l]!.y ∧ pts[l]!.y < ts.length ∧ pts[l]!.y.toNat < ts.length ∧ ((pts[l]!.y.toNat:Nat):Int) = pts[l]!.y:=by
 have := w.y l hl
 unfold bJ at h
 simp only [Bool.or_eq_true,decide_eq_true_eq] at h
 omega
theorem testBit_lnB {pts:List Pnt}{i l:Nat}:(Kd pts i).testBit l = (bJ pts[i]! && decide (l = i)):=by
 unfold Kd
 split
 ·rename_i h
  by_cases e : l = i
  ·subst e;rw [Nat.testBit_two_pow_self,h]; simp
  ·rw [Nat.testBit_two_pow_of_ne (fun q => e q.symm),h]; simp [e]
 ·rename_i h;rw [Bool.not_eq_true] at h;rw [h]; simp
theorem kM {ts:List Int}{pts:List Pnt}(w:WG ts pts){i A l:Nat}(hi:i < pts.length) (hl:l < pts.length) (hln:bJ pts[l]! = true):(tT ts pts i A).testBit l = true ↔ (A.testBit l = true ∧ aV ts pts[i]! pts[l]!.y ≠ 2 ∧ aQ pts[i]! ≠ pts[l]!.y) ∨ (bJ pts[i]! = true ∧ l = i):=by
 have hy := oD w hl hln
 have hs := (w.set i hi).1
 have htl := w.tl
 unfold tT
 rw [Nat.testBit_or,cU,kI,testBit_lnB,Nat.testBit_or,cK,eY (by omega),hy.2.2.2,hln]
 simp only [Bool.or_eq_true,Bool.and_eq_true,Bool.not_eq_true',Bool.and_eq_false_iff,Bool.or_eq_false_iff,decide_eq_true_eq,decide_eq_false_iff_not,List.mem_cons,List.not_mem_nil,or_false,Bool.true_eq_false,false_or]
 have := hy.2.2.1
 grind
theorem A9 {ts:List Int}{pts:List Pnt}(w:WG ts pts){i A:Nat}(hi:i < pts.length) (hA:A < 2 ^ pts.length):tT ts pts i A < 2 ^ pts.length:=by
 unfold tT
 refine Nat.or_lt_two_pow (Nat.xor_lt_two_pow hA (Nat.lt_of_le_of_lt Nat.and_le_left hA)) ?_
 unfold Kd;split
 ·exact Nat.pow_lt_pow_right (by decide) hi
 ·exact Nat.pow_pos (by decide)
def KG (ts : List Int) (pts : List Pnt) (i A : Nat) : Prop := A < 2 ^ pts.length ∧ ∀ l,A.testBit l = true → IM ts pts (i,l)
def oT (ts : List Int) (pts : List Pnt) (A : List Nat) : Prop := A.length = pts.length ∧ ∀ i,i < pts.length → ∀ l,A[i]!.testBit l = true ↔ IM ts pts (i,l)
theorem Cs {ts:List Int}{pts:List Pnt}{A B:List Nat}(h1:oT ts pts A) (h2:oT ts pts B):A = B := iX h1.1 h2.1 fun i hi v => (h1.2 i hi v).trans (h2.2 i hi v).symm
theorem rN {ts:List Int}{pts:List Pnt}{a:Nat × Nat}(h:IM ts pts a):a.2 < pts.length ∧ bJ pts[a.2]! = true:=by
 induction h with
 | base h => exact ⟨h.1.1,h.2⟩
 | step _ r ih => rw [r.1]; exact ih
theorem Kp {ts:List Int}{pts:List Pnt}(w:WG ts pts):Flow mM (tT ts pts) pts (fun a => 2 ^ pts.length - a) (KG ts pts):=by
 refine ⟨fun i k A B e hA hB => ⟨Nat.or_lt_two_pow hB.1 (A9 w e.1 hA.1),fun l hl => ?_⟩,fun i k A B e hA hB hne => ?_⟩
 ·rw [Nat.testBit_or, Bool.or_eq_true] at hl
  rcases hl with hl|hl
  ·exact hB.2 l hl
  ·have hln : l < pts.length ∧ bJ pts[l]! = true := by
    have h0 := hl
    unfold tT at h0
    rw [Nat.testBit_or,cU,Bool.or_eq_true,Bool.and_eq_true] at h0
    rcases h0 with h0|h0
    ·exact rN (hA.2 l h0.1)
    ·rw [testBit_lnB, Bool.and_eq_true, decide_eq_true_eq] at h0
     rw [h0.2]; exact ⟨e.1,h0.1⟩
   rw [kM w e.1 hln.1 hln.2] at hl
   rcases hl with ⟨h1,h2,h3⟩ | ⟨h1,rfl⟩
   ·exact .step (hA.2 l h1) ⟨rfl,e,h2,h3⟩
   ·exact .base ⟨e,h1⟩
 ·have h1 := kJ hne
  have h2 := Nat.or_lt_two_pow hB.1 (A9 w e.1 hA.1)
  show 2 ^ pts.length - (B ||| tT ts pts i A) < 2 ^ pts.length - B
  omega
theorem El {ts:List Int}{pts:List Pnt}(w:WG ts pts){A:List Nat}(h:SG pts (KG ts pts) A) (hc:jK mM (tT ts pts) pts A):oT ts pts A:=by
 refine ⟨h.1,fun i hi l => ⟨fun hl => (h.2 i hi).2 l hl,fun hm => ?_⟩⟩
 have key : ∀ a : Nat × Nat, IM ts pts a → (A[a.1]!.testBit a.2 = true ∧ a.2 < pts.length ∧ bJ pts[a.2]! = true) := by
  refine Clo.sub (T := fun a : Nat × Nat => A[a.1]!.testBit a.2 = true ∧ a.2 < pts.length ∧ bJ pts[a.2]! = true) ?_ ?_
  ·rintro ⟨k, l⟩ ⟨e, hl⟩
   dsimp only at e hl ⊢
   refine ⟨eV.1 (hc l k e) l ?_,e.1,hl⟩
   rw [kM w e.1 e.1 hl]; exact .inr ⟨hl,rfl⟩
  ·rintro ⟨i, l⟩ ⟨k, l'⟩ ⟨ht, hl1, hl2⟩ ⟨rfl, e, hu, hs⟩
   dsimp only at ht hl1 hl2 e hu hs ⊢
   refine ⟨eV.1 (hc i k e) l' ?_,hl1,hl2⟩
   rw [kM w e.1 hl1 hl2]; exact .inl ⟨ht,hu,hs⟩
 exact (key (i,l) hm).1
theorem dP (xs:List Nat):(flat cW xs).length = xs.length := by rw [aK cW (e := 1)]; omega
theorem wL {xs:List Nat}{q:Nat}(h:q < xs.length):(flat cW xs).drop q = .v (.int .u64 ((xs[q]!:Nat):Int)) :: flat cW (xs.drop (q + 1)):=by
 have := fL cW (e := 1) xs q h
 rw [Nat.mul_one] at this;rw [this]; rfl
section
theorem Bd {t el z:Nat}{x i:Operand}{xs:List Nat}{k:IntKind}{m:Int}[ht:ArT P t z el] [he:SzT P el 1] [ha:AgT P el false] (hx:ev (lk ts) x = some (.agg (flat cW xs)))
  (hi : ev (lk ts) i = some (.v (.int k m))) (hl : xs.length = z) (hm : 0 ≤ m ∧ m < z) (hN : Nat.blt d N = true) {md' : Md} [hmd : MdA md (rO x ++ rO i) [.inl d] md'] (kk : RW P N all Q md' rest ⟨(d,.v (.int .u64 ((xs[m.toNat]! : Nat) : Int))) :: ts,hs,n,z0⟩) :
  RW P N all Q md (⟨some d,.index t x i,ty,pos,af,none⟩ :: rest) ⟨ts,hs,n,z0⟩ := by
 refine Dm (c := .v (.int .u64 ((xs[m.toNat]! : Nat) : Int))) hx hi ht.pf he.pf ha.pf hm ?_ (dD hN) (by rw [hmd.pf]; exact kk)
 have hlt : m.toNat < xs.length := by omega
 have := congrArg List.head? (wL hlt)
 rw [List.head?_drop] at this
 rw [Nat.mul_one]; exact this
theorem yJ {id z:Nat}{t:TypeId}{x:Operand}{xs:List Nat}[ha:AgT P t true] [hz:SzT P t z] (hx:ev (lk ts) x = some (.optr id 0)) (hH:aO hs id = some (flat cW xs)) (hl:xs.length = z) (h0:Nat.blt 0 z = true)
  (hN : Nat.blt d N = true) {md' : Md} [hmd : MdA md (rO x ++ rA (.optr id 0)) [.inl d] md'] (kk : RW P N all Q md' rest ⟨(d,.agg (flat cW xs)) :: ts,hs,n,z0⟩) : RW P N all Q md (⟨some d,.load t x,ty,pos,af,none⟩ :: rest) ⟨ts,hs,n,z0⟩ :=
 mT (cs := flat cW xs) hx ha.pf hz.pf (by simp only [deref,hH,Option.map_some,List.drop_zero]) (List.take_of_length_le (by rw [dP,hl]; exact Nat.le_refl _)) (by rw [dP,hl]) (by have := dD h0;omega) (dD hN) (by rw [hmd.pf]; exact kk)
theorem yT {id z k:Nat}{t:TypeId}{x:Operand}{xs:List Nat}[ha:AgT P t true] [hz:SzT P t z] (hx:ev (lk ts) x = some (.optr id (0 + k * z))) (hH:aO hs id = some (flat cW xs)) (hl:k * z + z ≤ xs.length) (h0:Nat.blt 0 z = true)
  (hN : Nat.blt d N = true) {md' : Md} [hmd : MdA md (rO x ++ rA (.optr id (0 + k * z))) [.inl d] md'] (kk : RW P N all Q md' rest ⟨(d,.agg (flat cW ((xs.drop (k * z)).take z))) :: ts,hs,n,z0⟩) : RW P N all Q md (⟨some d,.load t x,ty,pos,af,none⟩ :: rest) ⟨ts,hs,n,z0⟩ := by
 have e1 : (flat cW xs).drop (0 + k * z) = flat cW (xs.drop (k * z)) := by
  have := gS cW (e := 1) xs (k * z);rw [Nat.mul_one] at this;rw [Nat.zero_add,this]
 have e2 : (flat cW (xs.drop (k * z))).take z = flat cW ((xs.drop (k * z)).take z) := by
  have := fK cW (e := 1) (xs.drop (k * z)) z;rw [Nat.mul_one] at this;exact this
 exact mT (cs := flat cW (xs.drop (k * z))) hx ha.pf hz.pf (by simp only [deref,hH,Option.map_some]; rw [e1]) e2 (by rw [dP,List.length_take,List.length_drop]; omega) (by have := dD h0;omega) (dD hN) (by rw [hmd.pf]; exact kk)
theorem CE {id o q:Nat}{t:TypeId}{x:Operand}{xs:List Nat}[ha:AgT P t false] (hx:ev (lk ts) x = some (.optr id o)) (hH:aO hs id = some (flat cW xs)) (ho:o = q) (hq:q < xs.length)
  (hN : Nat.blt d N = true) {md' : Md} [hmd : MdA md (rO x ++ rA (.optr id o)) [.inl d] md'] (kk : RW P N all Q md' rest ⟨(d,.v (.int .u64 ((xs[q]! : Nat) : Int))) :: ts,hs,n,z0⟩) : RW P N all Q md (⟨some d,.load t x,ty,pos,af,none⟩ :: rest) ⟨ts,hs,n,z0⟩ := by
 subst ho
 exact kA hx ha.pf (by simp only [deref,hH,Option.map_some]; rw [wL hq]) rfl (dD hN) (by rw [hmd.pf]; exact kk)
theorem wO {id z:Nat}{t:TypeId}{x y:Operand}{xs:List Nat}{cs:List AV}[hz:SzT P t z] (hx:ev (lk ts) x = some (.optr id 0)) (hy:ev (lk ts) y = some (.agg (flat cW xs))) (hH:aO hs id = some cs) (hl:xs.length = z) (hc:cs.length = z)
  {md' : Md} [hmd : MdA md (rO x ++ (rO y ++ [.inr id])) [.inr id] md'] (kk : RW P N all Q md' rest ⟨ts,(id,some (flat cW xs)) :: hs,n,z0⟩) : RW P N all Q md (⟨none,.store t x y,ty,pos,af,none⟩ :: rest) ⟨ts,hs,n,z0⟩ :=
 yI (cs' := flat cW xs) hx hy hz.pf rfl (by rw [dP, hl]) hH (by rw [dP]; omega) (by
  unfold iQ
  rw [List.take_zero,List.nil_append,Nat.zero_add,dP,hl,List.drop_of_length_le (by omega),List.append_nil]) (by rw [hmd.pf]; exact kk)
theorem Lf {a b:Nat}:0 + a * 6 + b * 1 = a * 6 + b := by omega
theorem Lb {a:Nat}:0 + a * 1 = a := by omega
theorem DR {xs:List Nat}{k v a:Nat}(hk:k * 6 + v < xs.length):iQ (flat cW xs) (0 + k * 6 + v * 1) [.v (.int .u64 (a:Int))] = flat cW (xs.set (k * 6 + v) a):=by
 rw [show 0 + k * 6 + v * 1 = 0 + (k * 6 + v) * 1 by omega]; exact BC hk
theorem mD {T:Nat → Option AV}{H:Nat → Option (List AV)}{a t id z:Nat}{xs:List Nat}[ha:AgT P t true] [hz:SzT P t z] (h1:T a = some (.optr id 0)) (h2:H id = some (flat cW xs)) (hl:xs.length = z) (h0:0 < z) :
  jG P T H [.cell a t] = some [.agg (flat cW xs)] := by
 have e : (flat cW xs).take z = flat cW xs := List.take_of_length_le (by rw [dP,hl]; exact Nat.le_refl _)
 simp only [jG,Hz,h1,deref,h2,Option.map_some,List.drop_zero,ha.pf,hz.pf,e,dP,hl]
 rw [if_pos ⟨trivial,by omega⟩]
end
theorem DW {m:Nat}:(List.replicate m ([Value.int .u64 0,Value.int .u64 0,Value.int .u64 0,Value.int .u64 0,Value.int .u64 0,Value.int .u64 0].map AV.v)).flatten = flat cW (List.replicate (m * 6) 0):=by
 induction m with
 | zero => rfl
 | succ m ih =>
  rw [List.replicate_succ,List.flatten_cons,ih,Nat.succ_mul,Nat.add_comm,← List.replicate_append_replicate,← bX]
  rfl
def mF (L : List Int) (f : List Nat) : List Nat := L.foldl (fun f v => f.set v.toNat 0) f
def vL (ts : List Int) (pts : List Pnt) (i : Nat) (f : List Nat) : List Nat :=
 let x := pts[i]!
 let u := mF (a7 (wS ts x [2])) f
 if aQ x < 0 then u else
  let v := (aQ x).toNat
  let u2 := if bJ x = true then (u.set v 0).set v (2 ^ i) else u.set v 0
  if (bJ x = true ∧ iH ts[x.y.toNat]! = true) ∨ x.op = 3 then u2.set v (u2[v]! ||| f[x.y.toNat]!) else u2
theorem mW:∀ (L:List Int) (f:List Nat),(mF L f).length = f.length
 | [],f => rfl
 | v :: L,f => by show (mF L (f.set v.toNat 0)).length = _; rw [mW L]; simp
theorem u9:∀ (L:List Int) (f:List Nat) (q:Nat),(mF L f)[q]! = if ∃ v ∈ L,v.toNat = q then 0 else f[q]!
 | [],f,q => by simp [mF]
 | v :: L, f, q => by
  show (mF L (f.set v.toNat 0))[q]! = _
  rw [u9 L]
  by_cases h : ∃ v ∈ L,v.toNat = q
  ·rw [if_pos h,if_pos (by obtain ⟨z,h1,h2⟩ := h;exact ⟨z,List.mem_cons_of_mem _ h1,h2⟩)]
  ·rw [if_neg h]
   by_cases hv : v.toNat = q
   ·rw [if_pos ⟨v, List.mem_cons_self, hv⟩]
    subst hv
    by_cases hq : v.toNat < f.length
    ·rw [cM _ _ _ _ hq,if_pos rfl]
    ·rw [getElem!_neg (f.set v.toNat 0) v.toNat (by simpa using hq)]; rfl
   ·rw [if_neg (by rintro ⟨z, hz, e⟩; rcases List.mem_cons.1 hz with rfl | hz; exact hv e; exact h ⟨z, hz, e⟩)]
    simp only [List.getElem!_eq_getElem?_getD,List.getElem?_set_ne hv]
theorem ID (ts:List Int) (pts:List Pnt) (i:Nat) (f:List Nat):(vL ts pts i f).length = f.length:=by
 unfold vL
 dsimp only
 split
 ·exact mW _ _
 ·split <;> split <;> simp [mW]
theorem JA {L:List Int}{f:List Nat}(h:∀ z:Nat,Sm f[z]!) (z:Nat):Sm (mF L f)[z]!:=by
 rw [u9]; split
 ·infer_instance
 ·exact h z
theorem Ay {f:List Nat}{k a:Nat}(h:∀ z:Nat,Sm f[z]!) (ha:Sm a) (z:Nat):Sm (f.set k a)[z]!:=by
 by_cases hk : k < f.length
 ·rw [cM _ _ _ _ hk]; split
  ·exact ha
  ·exact h z
 ·rw [List.set_eq_of_length_le (by omega)]; exact h z
theorem nL {x:Pnt}(h:bJ x = true):x.op = 4 ∨ x.op = 5 := by simpa [bJ] using h
theorem CF {L:List Int}{f:List Nat}{k:Nat}(h:k < L.length):mF (L.take (k + 1)) f = (mF (L.take k) f).set (L[k]!).toNat 0:=by
 unfold mF;rw [cX _ _ _ _ h]
theorem kG {A n:Nat}(h:A < 2 ^ n){k:Nat}(hk:k < (a7 A).length):0 ≤ (a7 A)[k]! ∧ (a7 A)[k]! < n:=by
 obtain ⟨v,h1,h2,h3⟩ := dA.1 (aZ _ _ hk)
 have := b6 h h2
 omega
theorem iT (A:Nat):(a7 A).length ≤ 62:=by
 unfold a7;rw [List.length_map]; exact Nat.le_trans (List.length_filter_le _ _) (by simp)
def cG (A : List Nat) (i : Nat) : List Nat := (A.drop (i * 6)).take 6
theorem eQ {A:List Nat}{i v n:Nat}(hA:A.length = n * 6) (hi:i < n) (hv:v < 6):(cG A i)[v]! = A[i * 6 + v]!:=by
 have h2 : i * 6 + v < A.length := by omega
 rw [aW _ _ h2,aW _ _ (by unfold cG;simp;omega)]
 unfold cG;simp
theorem e7 {A:List Nat}{i n:Nat}(hA:A.length = n * 6) (hi:i < n):(cG A i).length = 6 := by unfold cG;simp;omega
theorem iN {ts:List Int}{pts:List Pnt}(w:WG ts pts){i v l:Nat}{f:List Nat}(hi:i < pts.length) (hv:v < 6) (hf:f.length = 6) :
  (vL ts pts i f)[v]!.testBit l = true ↔ (aQ pts[i]! ≠ v ∧ aV ts pts[i]! v ≠ 2 ∧ f[v]!.testBit l = true) ∨
   (aQ pts[i]! = v ∧ ((bJ pts[i]! = true ∧ l = i) ∨ (((bJ pts[i]! = true ∧ iH ts[pts[i]!.y.toNat]! = true) ∨ pts[i]!.op = 3) ∧ f[pts[i]!.y.toNat]!.testBit l = true))) := by
 have hst := w.set i hi
 have htl := w.tl
 have hclr : ∀ q : Nat, (mF (a7 (wS ts pts[i]! [2])) f)[q]! = if aV ts pts[i]! q = 2 then 0 else f[q]! := by
  intro q
  rw [u9]
  have : (∃ z ∈ a7 (wS ts pts[i]! [2]), z.toNat = q) ↔ aV ts pts[i]! q = 2 := by
   constructor
   ·rintro ⟨z, hz, rfl⟩
    obtain ⟨q,h1,h2,rfl⟩ := dA.1 hz
    rw [cK] at h2
    simpa using (by simpa using h2 : q < ts.length ∧ aV ts pts[i]! (q : Int) = 2).2
   ·intro h
    have := yO w hi (v := q) (by omega)
    exact ⟨(q : Int),dA.2 ⟨q,by omega,by rw [cK,Bool.and_eq_true,decide_eq_true_eq,decide_eq_true_eq]; exact ⟨this,by simp only [List.mem_singleton]; exact h⟩,rfl⟩,rfl⟩
  by_cases h : aV ts pts[i]! q = 2
  ·rw [if_pos (this.2 h),if_pos h]
  ·rw [if_neg (fun q => h (this.1 q)),if_neg h]
 have hul : (mF (a7 (wS ts pts[i]! [2])) f).length = 6 := by rw [mW,hf]
 unfold vL
 dsimp only
 generalize mF (a7 (wS ts pts[i]! [2])) f = u at hclr hul
 by_cases hneg : aQ pts[i]! < 0
 ·rw [if_pos hneg, hclr]
  by_cases h2 : aV ts pts[i]! v = 2
  ·rw [if_pos h2, Nat.zero_testBit]
   constructor
   ·intro h;cases h
   ·rintro (h | h)
    ·exact absurd h2 h.2.1
    ·omega
  ·rw [if_neg h2]
   constructor
   ·intro h;exact .inl ⟨by omega,h2,h⟩
   ·rintro (h | h)
    ·exact h.2.2
    ·omega
 ·rw [if_neg hneg]
  have hsv : (aQ pts[i]!).toNat < 6 := by omega
  have heq : ∀ q : Nat,q = (aQ pts[i]!).toNat ↔ aQ pts[i]! = q := by intro q;omega
  -- the slot before the last step
  have hu2 : ∀ q : Nat, (if bJ pts[i]! = true then (u.set (aQ pts[i]!).toNat 0).set (aQ pts[i]!).toNat (2 ^ i) else u.set (aQ pts[i]!).toNat 0)[q]! = if q = (aQ pts[i]!).toNat then (if bJ pts[i]! = true then 2 ^ i else 0) else u[q]! := by
   intro q
   by_cases hl : bJ pts[i]! = true
   ·rw [if_pos hl, if_pos hl, cM _ _ _ _ (by rw [List.length_set]; omega), cM _ _ _ _ (by omega)]
    split <;> rfl
   ·rw [if_neg hl,if_neg hl,cM _ _ _ _ (by omega)]
  have hu2l : (if bJ pts[i]! = true then (u.set (aQ pts[i]!).toNat 0).set (aQ pts[i]!).toNat (2 ^ i) else u.set (aQ pts[i]!).toNat 0).length = 6 := by split <;> simp [hul]
  generalize (if bJ pts[i]! = true then (u.set (aQ pts[i]!).toNat 0).set (aQ pts[i]!).toNat (2 ^ i) else u.set (aQ pts[i]!).toNat 0) = u2 at hu2 hu2l
  have hln : ∀ l : Nat, (if bJ pts[i]! = true then 2 ^ i else 0).testBit l = true ↔ bJ pts[i]! = true ∧ l = i := by
   intro l
   have := @testBit_lnB pts i l
   unfold Kd at this
   rw [this]; simp
  by_cases hc : (bJ pts[i]! = true ∧ iH ts[pts[i]!.y.toNat]! = true) ∨ pts[i]!.op = 3
  ·rw [if_pos hc, cM _ _ _ _ (by omega)]
   by_cases hv2 : v = (aQ pts[i]!).toNat
   ·have hs := (heq v).1 hv2
    rw [if_pos hv2,← hv2,hu2,if_pos hv2,Nat.testBit_or,Bool.or_eq_true,hln]
    constructor
    ·rintro (h | h)
     ·exact .inr ⟨hs,.inl h⟩
     ·exact .inr ⟨hs,.inr ⟨hc,h⟩⟩
    ·rintro (h | ⟨_, h | h⟩)
     ·exact absurd hs h.1
     ·exact .inl h
     ·exact .inr h.2
   ·have hs : aQ pts[i]! ≠ v := fun h => hv2 ((heq v).2 h)
    rw [if_neg hv2,hu2,if_neg hv2,hclr]
    by_cases h2 : aV ts pts[i]! v = 2
    ·rw [if_pos h2, Nat.zero_testBit]
     constructor
     ·intro h;cases h
     ·rintro (h | h)
      ·exact absurd h2 h.2.1
      ·exact absurd h.1 hs
    ·rw [if_neg h2]
     constructor
     ·intro h;exact .inl ⟨hs,h2,h⟩
     ·rintro (h | h)
      ·exact h.2.2
      ·exact absurd h.1 hs
  ·rw [if_neg hc, hu2]
   by_cases hv2 : v = (aQ pts[i]!).toNat
   ·have hs := (heq v).1 hv2
    rw [if_pos hv2,hln]
    constructor
    ·intro h;exact .inr ⟨hs,.inl h⟩
    ·rintro (h | ⟨_, h | h⟩)
     ·exact absurd hs h.1
     ·exact h
     ·exact absurd h.1 hc
   ·have hs : aQ pts[i]! ≠ v := fun h => hv2 ((heq v).2 h)
    rw [if_neg hv2,hclr]
    by_cases h2 : aV ts pts[i]! v = 2
    ·rw [if_pos h2, Nat.zero_testBit]
     constructor
     ·intro h;cases h
     ·rintro (h | h)
      ·exact absurd h2 h.2.1
      ·exact absurd h.1 hs
    ·rw [if_neg h2]
     constructor
     ·intro h;exact .inl ⟨hs,h2,h⟩
     ·rintro (h | h)
      ·exact h.2.2
      ·exact absurd h.1 hs
def KL (ts : List Int) (pts : List Pnt) (i v A : Nat) : Prop := A < 2 ^ pts.length ∧ ∀ l,A.testBit l = true → GB ts pts (i,v,l)
def SF (ts : List Int) (pts : List Pnt) (s : List Nat) : Prop := s.length = pts.length * 6 ∧ ∀ i v,i < pts.length → v < 6 → KL ts pts i v s[i * 6 + v]!
def oP (ts : List Int) (pts : List Pnt) (A : List Nat) : Prop := A.length = pts.length * 6 ∧ ∀ i v,i < pts.length → v < 6 → ∀ l,A[i * 6 + v]!.testBit l = true ↔ GB ts pts (i,v,l)
theorem CZ {ts:List Int}{pts:List Pnt}{A B:List Nat}(h1:oP ts pts A) (h2:oP ts pts B):A = B:=by
 refine iX h1.1 h2.1 fun q hq v => ?_
 have e : q = q / 6 * 6 + q % 6 := by omega
 have h3 : q / 6 < pts.length := by omega
 have h4 : q % 6 < 6 := by omega
 have a := h1.2 (q / 6) (q % 6) h3 h4 v
 have b := h2.2 (q / 6) (q % 6) h3 h4 v
 rw [← e] at a b
 exact a.trans b.symm
def nY (a : List Nat) (k : Nat) (s : List Nat × Bool) (v : Nat) : List Nat × Bool := jR mM a[v]! s (k * 6 + v)
def rV (a : List Nat) (s : List Nat × Bool) (k : Nat) : List Nat × Bool := (List.range 6).foldl (nY a k) s
def AI (ts : List Int) (pts : List Pnt) (s : List Nat × Bool) (i : Nat) : List Nat × Bool := (rU pts i).foldl (rV (vL ts pts i (cG s.1 i))) s
def DU (ts : List Int) (pts : List Pnt) (s : List Nat × Bool) : List Nat × Bool := (List.range pts.length).foldl (AI ts pts) s
theorem EN {a b n:Nat}(h1:a < 2 ^ n) (h2:b < 2 ^ n):a ||| b < 2 ^ n := Nat.or_lt_two_pow h1 h2
theorem Cb {ts:List Int}{pts:List Pnt}(w:WG ts pts){s:List Nat}(h:SF ts pts s){i k v:Nat}(e:cE pts i k) (hv:v < 6):KL ts pts k v (vL ts pts i (cG s i))[v]!:=by
 have hi := e.1
 have hrl := e7 h.1 hi
 have htl := w.tl
 have key : ∀ l, (vL ts pts i (cG s i))[v]!.testBit l = true → l < pts.length ∧ GB ts pts (k, v, l) := by
  intro l hl
  rw [iN w hi hv hrl] at hl
  rcases hl with ⟨h1,h2,h3⟩ | ⟨h1,⟨h2,rfl⟩ | ⟨h2,h3⟩⟩
  ·rw [eQ h.1 hi hv] at h3
   have hp := h.2 i v hi hv
   exact ⟨b6 hp.1 h3,.step (hp.2 l h3) ⟨rfl,e,.inl ⟨h1,rfl,h2⟩⟩⟩
  ·exact ⟨hi,.base ⟨e,h2,h1⟩⟩
  ·have hy : 0 ≤ pts[i]!.y ∧ pts[i]!.y < ts.length := by
    have := w.y i hi
    rcases h2 with ⟨h2,_⟩|h2
    ·have := nL h2;omega
    ·omega
   have hy6 : pts[i]!.y.toNat < 6 := by omega
   rw [eQ h.1 hi hy6] at h3
   have hp := h.2 i _ hi hy6
   exact ⟨b6 hp.1 h3,.step (hp.2 l h3) ⟨rfl,e,.inr ⟨h1,by show ((pts[i]!.y.toNat : Nat) : Int) = pts[i]!.y;omega,h2⟩⟩⟩
 refine ⟨?_,fun l hl => (key l hl).2⟩
 apply Nat.lt_pow_two_of_testBit
 intro l hl
 cases hq : (vL ts pts i (cG s i))[v]!.testBit l with
 | false => rfl
 | true => have := (key l hq).1;omega
theorem wG {ts:List Int}{pts:List Pnt}{a:List Nat}{k:Nat}(hk:k < pts.length) (ha:∀ v,v < 6 → KL ts pts k v a[v]!) (s:List Nat) (b:Bool) (v:Nat) (hv:v < 6) (h:SF ts pts s) :
  SF ts pts (nY a k (s,b) v).1 ∧ ((nY a k (s,b) v = (s,b) ∧ mM s[k * 6 + v]! a[v]! = s[k * 6 + v]!) ∨ ((nY a k (s,b) v).2 = true ∧ eH ((nY a k (s,b) v).1.map (fun x => 2 ^ pts.length - x)) < eH (s.map (fun x => 2 ^ pts.length - x)))) := by
 unfold nY jR
 dsimp only
 have hq : k * 6 + v < s.length := by rw [h.1]; omega
 have hp := h.2 k v hk hv
 by_cases hc : mM s[k * 6 + v]! a[v]! ≠ s[k * 6 + v]!
 ·rw [if_pos hc]
  have hb := EN hp.1 (ha v hv).1
  refine ⟨⟨by simp [h.1],fun i u hi hu => ?_⟩,.inr ⟨rfl,?_⟩⟩
  ·dsimp only
   rw [cM _ _ _ _ hq]
   split
   ·rename_i e
    obtain rfl : i = k := by omega
    obtain rfl : u = v := by omega
    refine ⟨hb,fun l hl => ?_⟩
    rw [Nat.testBit_or,Bool.or_eq_true] at hl
    rcases hl with hl|hl
    ·exact hp.2 l hl
    ·exact (ha _ hv).2 l hl
   ·exact h.2 i u hi hu
  ·have h1 := nC (fun x => 2 ^ pts.length - x) s (k * 6 + v) (mM s[k * 6 + v]! a[v]!) hq
   have h2 := kJ hc
   dsimp only at h1 ⊢
   have h3 : mM s[k * 6 + v]! a[v]! < 2 ^ pts.length := hb
   have h4 : s[k * 6 + v]! < mM s[k * 6 + v]! a[v]! := h2
   omega
 ·rw [if_neg hc]
  exact ⟨h,.inl ⟨rfl,Classical.not_not.1 hc⟩⟩
theorem F5 {ts:List Int}{pts:List Pnt}{a:List Nat}{k:Nat}(hk:k < pts.length) (ha:∀ v,v < 6 → KL ts pts k v a[v]!) (s:List Nat) (b:Bool) (h:SF ts pts s) :
  SF ts pts (rV a (s,b) k).1 ∧ ((rV a (s,b) k = (s,b) ∧ ∀ v,v < 6 → mM s[k * 6 + v]! a[v]! = s[k * 6 + v]!) ∨ ((rV a (s,b) k).2 = true ∧ eH ((rV a (s,b) k).1.map (fun x => 2 ^ pts.length - x)) < eH (s.map (fun x => 2 ^ pts.length - x)))) := by
 have := hG (nY a k) (fun v s => mM s[k * 6 + v]! a[v]! = s[k * 6 + v]!) (fun s => eH (s.map (fun x => 2 ^ pts.length - x))) (SF ts pts) (List.range 6)
  (fun s' b' v hv hs => wG hk ha s' b' v (List.mem_range.1 hv) hs) s b h
 refine ⟨this.1,?_⟩
 rcases this.2 with ⟨e1,e2⟩|h2
 ·exact .inl ⟨e1,fun v hv => e2 v (List.mem_range.2 hv)⟩
 ·exact .inr h2
theorem Fi {ts:List Int}{pts:List Pnt}(w:WG ts pts) (s:List Nat) (b:Bool) (i:Nat) (hi:i < pts.length) (h:SF ts pts s) :
  SF ts pts (AI ts pts (s, b) i).1 ∧ ((AI ts pts (s, b) i = (s, b) ∧ ∀ k, cE pts i k → ∀ v, v < 6 → mM s[k * 6 + v]! (vL ts pts i (cG s i))[v]! = s[k * 6 + v]!) ∨
   ((AI ts pts (s,b) i).2 = true ∧ eH ((AI ts pts (s,b) i).1.map (fun x => 2 ^ pts.length - x)) < eH (s.map (fun x => 2 ^ pts.length - x)))) := by
 have := hG (rV (vL ts pts i (cG s i))) (fun k s' => ∀ v, v < 6 → mM s'[k * 6 + v]! (vL ts pts i (cG s i))[v]! = s'[k * 6 + v]!) (fun s => eH (s.map (fun x => 2 ^ pts.length - x))) (SF ts pts) (rU pts i)
  (fun s' b' k hk hs => by
   have e := (nE w hi).1 hk
   exact F5 (cQ w e) (fun v hv => Cb w h e hv) s' b' hs) s b h
 refine ⟨this.1,?_⟩
 rcases this.2 with ⟨e1,e2⟩|h2
 ·exact .inl ⟨e1,fun k e => e2 k ((nE w hi).2 e)⟩
 ·exact .inr h2
def vW (ts : List Int) (pts : List Pnt) (s : List Nat) : Prop := ∀ i k,cE pts i k → ∀ v,v < 6 → mM s[k * 6 + v]! (vL ts pts i (cG s i))[v]! = s[k * 6 + v]!
theorem E6 {ts:List Int}{pts:List Pnt}(w:WG ts pts) (s:List Nat) (b:Bool) (h:SF ts pts s) :
  SF ts pts (DU ts pts (s,b)).1 ∧ ((DU ts pts (s,b) = (s,b) ∧ vW ts pts s) ∨ ((DU ts pts (s,b)).2 = true ∧ eH ((DU ts pts (s,b)).1.map (fun x => 2 ^ pts.length - x)) < eH (s.map (fun x => 2 ^ pts.length - x)))) := by
 have := hG (AI ts pts) (fun i s => ∀ k, cE pts i k → ∀ v, v < 6 → mM s[k * 6 + v]! (vL ts pts i (cG s i))[v]! = s[k * 6 + v]!) (fun s => eH (s.map (fun x => 2 ^ pts.length - x))) (SF ts pts) (List.range pts.length)
  (fun s' b' i hi hs => Fi w s' b' i (List.mem_range.1 hi) hs) s b h
 refine ⟨this.1,?_⟩
 rcases this.2 with ⟨e1,e2⟩|h2
 ·exact .inl ⟨e1,fun i k e => e2 i (List.mem_range.2 e.1) k e⟩
 ·exact .inr h2
theorem Cg {ts:List Int}{pts:List Pnt}(w:WG ts pts){a:Nat × Nat × Nat}(h:GB ts pts a):a.1 < pts.length ∧ a.2.1 < ts.length ∧ a.2.2 < pts.length:=by
 induction h with
 | @base a h =>
  have h1 := (w.set _ h.1.1).1
  have h2 := h.2.2
  exact ⟨cQ w h.1,by omega,h.1.1⟩
 | @step a b _ r ih =>
  refine ⟨cQ w r.2.1,?_,by rw [r.1]; exact ih.2.2⟩
  rcases r.2.2 with ⟨_,h,_⟩ | ⟨h,_⟩
  ·rw [h]; exact ih.2.1
  ·have h1 := (w.set _ r.2.1.1).1
   omega
theorem EL {ts:List Int}{pts:List Pnt}(w:WG ts pts){A:List Nat}(h:SF ts pts A) (hc:vW ts pts A):oP ts pts A:=by
 refine ⟨h.1,fun i v hi hv l => ⟨fun hl => (h.2 i v hi hv).2 l hl,fun hm => ?_⟩⟩
 have htl := w.tl
 have key : ∀ a : Nat × Nat × Nat, GB ts pts a → A[a.1 * 6 + a.2.1]!.testBit a.2.2 = true ∧ a.2.1 < ts.length := by
  refine Clo.sub (T := fun a : Nat × Nat × Nat => A[a.1 * 6 + a.2.1]!.testBit a.2.2 = true ∧ a.2.1 < ts.length) ?_ ?_
  ·rintro ⟨k, v, l⟩ ⟨e, hl, hs⟩
   dsimp only at e hl hs ⊢
   have h1 := (w.set _ e.1).1
   have hv : v < 6 := by omega
   refine ⟨eV.1 (hc l k e v hv) l ?_,by omega⟩
   rw [iN w e.1 hv (e7 h.1 e.1)]
   exact .inr ⟨hs,.inl ⟨hl,rfl⟩⟩
  ·rintro ⟨i, v, l⟩ ⟨k, v', l'⟩ ⟨ht, hv⟩ ⟨rfl, e, hd⟩
   dsimp only at ht hv e hd ⊢
   have h1 := (w.set _ e.1).1
   rcases hd with ⟨g1,rfl,g3⟩ | ⟨g1,g2,g3⟩
   ·refine ⟨eV.1 (hc i k e v' (by omega)) l' ?_, hv⟩
    rw [iN w e.1 (by omega) (e7 h.1 e.1),eQ h.1 e.1 (by omega)]
    exact .inl ⟨g1,g3,ht⟩
   ·refine ⟨eV.1 (hc i k e v' (by omega)) l' ?_, by omega⟩
    rw [iN w e.1 (by omega) (e7 h.1 e.1)]
    have : pts[i]!.y.toNat = v := by omega
    rw [this,eQ (v := v) h.1 e.1 (by omega)]
    exact .inr ⟨g1,.inr ⟨g3,ht⟩⟩
 exact (key (i,v,l) hm).1
theorem J9 {ts:List Int}{pts:List Pnt}:SF ts pts (List.replicate (pts.length * 6) 0):=by
 refine ⟨by simp,fun i v hi hv => ?_⟩
 rw [aW _ _ (by simp;omega),List.getElem_replicate]
 exact ⟨Nat.pow_pos (by decide),fun l h => by simp at h⟩
theorem IH {ts:List Int}{pts:List Pnt}(w:WG ts pts){s:List Nat}(h:SF ts pts s) (q:Nat):Sm s[q]!:=by
 have hpl := w.pl
 by_cases hq : q < s.length
 ·have e : q = q / 6 * 6 + q % 6 := by omega
  have := h.1
  have := (h.2 (q / 6) (q % 6) (by omega) (by omega)).1
  rw [← e] at this
  exact ⟨Nat.lt_of_lt_of_le this (Nat.pow_le_pow_right (by decide) (by omega))⟩
 ·rw [getElem!_neg s q hq]; exact ⟨by decide⟩
theorem tI (a:List Nat) (k v:Nat) (s:List Nat × Bool):(List.range (v + 1)).foldl (nY a k) s = nY a k ((List.range v).foldl (nY a k) s) v := dC _ _ _
theorem Cj {a:List Nat}{pts:List Pnt}{i j:Nat}(h:j < pts[i]!.next.length) (s:List Nat × Bool) :
  ((rU pts i).take (j + 1)).foldl (rV a) s = rV a (((rU pts i).take j).foldl (rV a) s) (pts[i]!.next[j]!).toNat := by
 rw [cX _ _ _ _ (by rw [jN]; exact h),vX h]
section
theorem m6 {e:Nat}(hM:Nat.blt n aT = true) (hN:Nat.blt d N = true) (kk:RW P N all Q .txt rest ⟨(d,.own n 0 0 e) :: ts,(n,some []) :: hs,n + 1,z0⟩) :
  RW P N all Q .txt (⟨some d,.assign (.const (.slice none 0 0)),ty,pos,af,none⟩ :: rest) ⟨ts,hs,n,z0⟩ := by
 refine sO (av := .v (.slice none 0 0)) rfl hN (md' := .txt) (eG kk ((Le.nilOwn (d := d) e (by simp [jQ]) (dD hM)).trans ?_))
 refine Le.of (fun t av h => ?_) (fun i c h => h) (Nat.le_refl _) rfl
 show lk ((d,.own n 0 0 e) :: (d,.v (.slice none 0 0)) :: ts) t = _
 have h' : lk ((d,.own n 0 0 e) :: ts) t = some av := h
 simp only [jQ] at h' ⊢
 split
 ·rename_i q;rw [if_pos q] at h'; exact h'
 ·rename_i q;rw [if_neg q] at h'; exact h'
theorem zR {xs:List Nat}{t el m:Nat}{x i:Operand}{kk0:IntKind}{k:Int}[ht:SlT P t el] [he:SzT P el 6] (hx:ev (lk ts) x = some (.imm m (flat cW xs)))
  (hi : ev (lk ts) i = some (.v (.int kk0 k))) (hm : 0 ≤ k ∧ k < m) (hN : Nat.blt d N = true) {md' : Md} [hmd : MdA md (rO x ++ rO i) [.inl d] md'] (kk : RW P N all Q md' rest ⟨(d,.iptr (flat cW (xs.drop (k.toNat * 6)))) :: ts,hs,n,z0⟩) :
  RW P N all Q md (⟨some d,.indexAddr t x i,ty,pos,af,none⟩ :: rest) ⟨ts,hs,n,z0⟩ :=
 eW (out := .iptr (flat cW (xs.drop (k.toNat * 6)))) hx hi ht.pf he.pf (by
  simp only [xS]; rw [if_pos hm]
  have := gS cW (e := 1) xs (k.toNat * 6);rw [Nat.mul_one] at this;rw [this]) (dD hN) (by rw [hmd.pf]; exact kk)
theorem yE {z:Nat}{t:TypeId}{x:Operand}{xs:List Nat}[ha:AgT P t true] [hz:SzT P t z] (hx:ev (lk ts) x = some (.iptr (flat cW xs))) (hl:z ≤ xs.length) (h0:Nat.blt 0 z = true)
  (hN : Nat.blt d N = true) {md' : Md} [hmd : MdA md (rO x ++ rA (.iptr (flat cW xs))) [.inl d] md'] (kk : RW P N all Q md' rest ⟨(d,.agg (flat cW (xs.take z))) :: ts,hs,n,z0⟩) : RW P N all Q md (⟨some d,.load t x,ty,pos,af,none⟩ :: rest) ⟨ts,hs,n,z0⟩ := by
 have e2 : (flat cW xs).take z = flat cW (xs.take z) := by have := fK cW (e := 1) xs z;rw [Nat.mul_one] at this;exact this
 exact mT (cs := flat cW xs) hx ha.pf hz.pf rfl e2 (by rw [dP,List.length_take]; omega) (by have := dD h0;omega) (dD hN) (by rw [hmd.pf]; exact kk)
end
def iB (ts : List Int) (x : Pnt) (m : Bool) : List Acc :=
 (if x.op = 4 ∨ x.op = 6 then [⟨x.y,false⟩] else if x.op = 5 then [⟨x.y,true⟩] else if x.op = 7 ∨ x.op = 8 then [⟨x.x,true⟩] else if x.op = 3 ∧ JF ts[x.y.toNat]! = true then [⟨x.y,true⟩] else []) ++
 (if 0 ≤ aQ x ∧ ts[(aQ x).toNat]! = 2 ∧ m = true then [⟨aQ x,true⟩] else [])
def Kh (f : List Nat) (L : List Int) (a : Nat) : Nat := L.foldl (fun a v => a ||| f[v.toNat]!) a
def v7 (ts : List Int) (x : Pnt) (live : Nat) (f : List Nat) : Nat := Kh f (a7 (lZ live (wS ts x [2] ||| gG x))) 0
theorem iI (f:List Nat) (l:Nat):∀ (L:List Int) (a:Nat),(Kh f L a).testBit l = true ↔ a.testBit l = true ∨ ∃ v ∈ L,f[v.toNat]!.testBit l = true
 | [],a => by simp [Kh]
 | v :: L, a => by
  show (Kh f L (a ||| f[v.toNat]!)).testBit l = true ↔ _
  rw [iI f l L,Nat.testBit_or,Bool.or_eq_true]
  simp only [List.mem_cons,exists_eq_or_imp]
  grind
def HT (pts : List Pnt) (wr : Bool) (L : List Int) (a : Nat) : Nat := L.foldl (fun a l => if wr = true ∨ pts[l.toNat]!.op = 5 then a ||| 2 ^ l.toNat else a) a
def Gy (pts : List Pnt) (loans : Nat) (acs : List Acc) (a : Nat) : Nat := acs.foldl (fun a c => HT pts c.write (a7 (loans &&& o7 pts (2 ^ c.var.toNat))) a) a
theorem oU (pts:List Pnt) (wr:Bool) (l:Nat):∀ (L:List Int) (a:Nat),(HT pts wr L a).testBit l = true ↔ a.testBit l = true ∨ ((∃ z ∈ L,z.toNat = l) ∧ (wr = true ∨ pts[l]!.op = 5))
 | [],a => by simp [HT]
 | z :: L, a => by
  show (HT pts wr L (if wr = true ∨ pts[z.toNat]!.op = 5 then a ||| 2 ^ z.toNat else a)).testBit l = true ↔ _
  rw [oU pts wr l L]
  have h2 : ∀ b : Nat, (a ||| 2 ^ b).testBit l = true ↔ a.testBit l = true ∨ b = l := by
   intro b
   rw [Nat.testBit_or,Bool.or_eq_true,Nat.testBit_two_pow,decide_eq_true_eq]
  split
  ·rename_i h
   rw [h2]
   simp only [List.mem_cons,exists_eq_or_imp]
   constructor
   ·rintro ((h1 | rfl) | ⟨h1, h3⟩)
    ·exact .inl h1
    ·exact .inr ⟨.inl rfl,h⟩
    ·exact .inr ⟨.inr h1,h3⟩
   ·rintro (h1 | ⟨rfl | h1, h3⟩)
    ·exact .inl (.inl h1)
    ·exact .inl (.inr rfl)
    ·exact .inr ⟨h1,h3⟩
  ·rename_i h
   simp only [List.mem_cons,exists_eq_or_imp]
   constructor
   ·rintro (h1 | ⟨h1, h3⟩)
    ·exact .inl h1
    ·exact .inr ⟨.inr h1,h3⟩
   ·rintro (h1 | ⟨rfl | h1, h3⟩)
    ·exact .inl h1
    ·exact absurd h3 h
    ·exact .inr ⟨h1,h3⟩
theorem kU (pts:List Pnt) (loans l:Nat) (hl:Sm loans):∀ (acs:List Acc) (a:Nat),(Gy pts loans acs a).testBit l = true ↔ a.testBit l = true ∨ ∃ c ∈ acs,loans.testBit l = true ∧ (o7 pts (2 ^ c.var.toNat)).testBit l = true ∧ (c.write = true ∨ pts[l]!.op = 5)
 | [],a => by simp [Gy]
 | c :: acs, a => by
  show (Gy pts loans acs (HT pts c.write (a7 (loans &&& o7 pts (2 ^ c.var.toNat))) a)).testBit l = true ↔ _
  rw [kU pts loans l hl acs,oU]
  have h2 : (∃ z ∈ a7 (loans &&& o7 pts (2 ^ c.var.toNat)), z.toNat = l) ↔ loans.testBit l = true ∧ (o7 pts (2 ^ c.var.toNat)).testBit l = true := by
   constructor
   ·rintro ⟨z, hz, rfl⟩
    obtain ⟨v,h1,h3,rfl⟩ := dA.1 hz
    rw [Nat.testBit_and,Bool.and_eq_true] at h3;exact h3
   ·intro h
    have : l < 62 := b6 hl.pf h.1
    exact ⟨(l : Int),dA.2 ⟨l,this,by rw [Nat.testBit_and,h.1,h.2]; rfl,rfl⟩,rfl⟩
  rw [h2]
  simp only [List.mem_cons,exists_eq_or_imp]
  grind
theorem yA (ts:List Int) (x:Pnt) (m:Bool):(iB ts x m).length ≤ 2:=by
 unfold iB;rw [List.length_append]
 have h1 : ∀ (c : Prop) [Decidable c] (a b : List Acc), a.length ≤ 1 → b.length ≤ 1 → (if c then a else b).length ≤ 1 := by
  intro c _ a b h h2;split <;> assumption
 have a1 := h1 (x.op = 3 ∧ JF ts[x.y.toNat]! = true) [⟨x.y,true⟩] [] (by simp) (by simp)
 have a2 := h1 (x.op = 7 ∨ x.op = 8) [⟨x.x,true⟩] _ (by simp) a1
 have a3 := h1 (x.op = 5) [⟨x.y,true⟩] _ (by simp) a2
 have a4 := h1 (x.op = 4 ∨ x.op = 6) [⟨x.y,false⟩] _ (by simp) a3
 have a5 := h1 (0 ≤ aQ x ∧ ts[(aQ x).toNat]! = 2 ∧ m = true) [⟨aQ x,true⟩] [] (by simp) (by simp)
 omega
theorem Bh {ts:List Int}{pts:List Pnt}(m:Bool) (w:WG ts pts){i:Nat}(hi:i < pts.length):∀ c ∈ iB ts pts[i]! m,0 ≤ c.var ∧ c.var < ts.length:=by
 have hst := w.set i hi
 have hx := w.x i hi
 have hy := w.y i hi
 intro c hc
 unfold iB at hc
 rw [List.mem_append] at hc
 rcases hc with hc|hc
 ·repeat' split at hc
  all_goals first
   | (rw [List.mem_singleton] at hc;subst hc;dsimp only;omega)
   | cases hc
 ·split at hc
  ·rw [List.mem_singleton] at hc;subst hc;dsimp only;omega
  ·cases hc
def Dt (i : Nat) (L : List Int) : List Iss := L.map fun v => ⟨i,1,v⟩
def C2 (pts : List Pnt) (i : Nat) (L : List Int) : List Iss := L.map fun l => ⟨i,if pts[l.toNat]!.op = 5 then 3 else 2,l⟩
def G8 (ts : List Int) (pts : List Pnt) (Am Al Af Ap : List Nat) (i : Nat) : Nat :=
 Gy pts (v7 ts pts[i]! Al[i]! (cG Af i) &&& Ap[i]!) (iB ts pts[i]! (Am[i]!.testBit (aQ pts[i]!).toNat)) 0
def Ed (ts : List Int) (pts : List Pnt) (Aa Am Al Af Ap : List Nat) (i : Nat) : List Iss :=
 Dt i (a7 (lZ (wS ts pts[i]! [1,2,3]) Aa[i]!)) ++ C2 pts i (a7 (G8 ts pts Am Al Af Ap i))
def nZ (ts : List Int) (pts : List Pnt) (Aa Am Al Af Ap : List Nat) (k : Nat) : List Iss := (List.range k).flatMap (Ed ts pts Aa Am Al Af Ap)
theorem lD (ts:List Int) (pts:List Pnt) (Aa Am Al Af Ap:List Nat) (k:Nat):nZ ts pts Aa Am Al Af Ap (k + 1) = nZ ts pts Aa Am Al Af Ap k ++ Ed ts pts Aa Am Al Af Ap k:=by
 unfold nZ;rw [List.range_succ,List.flatMap_append]; simp
theorem iP {α β:Type}[Inhabited α] (g:α → β) (L:List α) (k:Nat) (h:k < L.length):(L.take (k + 1)).map g = (L.take k).map g ++ [g L[k]!]:=by
 rw [dK _ _ h,List.map_append]; rfl
theorem Ii {xs:List Iss}{m:Nat}{a b c:Int}(hm:m = xs.length):((flat fM xs).drop 0).take (m * 3) ++ [iv a,iv b,iv c] = flat fM (xs ++ [⟨a,b,c⟩]) := kO hm rfl
theorem Bc {ts:List Int}{pts:List Pnt}(w:WG ts pts){Am Al Af Ap:List Nat}{i:Nat}(hp:Ap[i]! < 2 ^ pts.length):G8 ts pts Am Al Af Ap i < 2 ^ pts.length:=by
 have hpl := w.pl
 have hl : v7 ts pts[i]! Al[i]! (cG Af i) &&& Ap[i]! < 2 ^ pts.length := Nat.and_lt_two_pow _ hp
 apply Nat.lt_pow_two_of_testBit
 intro l hl2
 unfold G8
 cases hq : (Gy pts (v7 ts pts[i]! Al[i]! (cG Af i) &&& Ap[i]!) (iB ts pts[i]! (Am[i]!.testBit (aQ pts[i]!).toNat)) 0).testBit l with
 | false => rfl
 | true =>
  rw [kU _ _ _ ⟨Nat.lt_of_lt_of_le hl (Nat.pow_le_pow_right (by decide) (by omega))⟩] at hq
  rcases hq with hq | ⟨c,_,h2,_⟩
  ·simp at hq
  ·have := b6 hl h2;omega
theorem EG {ts:List Int}{pts:List Pnt}(w:WG ts pts){a:Nat × Nat}(h:Mb ts pts a):a.2 < ts.length:=by
 induction h with
 | base h => obtain ⟨i,e,h2⟩ := h;have := (w.set i e.1).1;omega
 | step _ r ih => rw [r.1]; exact ih
section
theorem qA {fn:Go.Fn}{t i:Nat}{cs:List AV}(hx:lk ts t = some (.optr i 0)) (hH:aO hs i = some cs) (hN:Nat.blt d N = true)
  (kk : RW P N all Q .txt rest ⟨(d,.clos fn [] [.iptr cs]) :: (t,.iptr cs) :: ts,(i,none) :: hs,n,z0⟩) : RW P N all Q .txt (⟨some d,.makeFunc fn #[] #[.tmp t],ty,pos,af,none⟩ :: rest) ⟨ts,hs,n,z0⟩ :=
 eG (kF (f := []) (c := [.iptr cs]) rfl (by show evL _ [Operand.tmp t] = _; simp [evL,ev,jQ]) hN (md' := .txt) kk) (Le.frzP hx hH)
end
structure Flows (ts : List Int) (pts : List Pnt) where
 Aa : List Nat
 Am : List Nat
 An : List Nat
 Al : List Nat
 Af : List Nat
 Ap : List Nat
 ga : oW ts pts Aa
 gm : oR ts pts Am
 gn : rE ts pts An
 gl : oV ts pts Al
 gf : oP ts pts Af
 gp : oT ts pts Ap
theorem lN (n m:Nat) (T:Nat → Nat → Prop) (h:∀ i v,i < n → T i v → v < m):∃ A:List Nat,A.length = n ∧ ∀ i,i < n → ∀ v,A[i]!.testBit v = true ↔ T i v:=by
 have key : ∀ i : Nat, ∃ f : Nat → Bool, ∀ v, f v = true ↔ T i v := fun i => by
  have : ∀ v, ∃ b : Bool, b = true ↔ T i v := fun v => by
   by_cases hT : T i v
   ·exact ⟨true,by simp [hT]⟩
   ·exact ⟨false,by simp [hT]⟩
  exact ⟨fun v => Classical.choose (this v),fun v => Classical.choose_spec (this v)⟩
 refine ⟨(List.range n).map (fun i => dY (Classical.choose (key i)) m),by simp,fun i hi v => ?_⟩
 rw [aW _ _ (by simpa using hi),List.getElem_map,List.getElem_range,dZ,Bool.and_eq_true,decide_eq_true_eq,Classical.choose_spec (key i) v]
 exact ⟨fun h2 => h2.2,fun h2 => ⟨h i v hi h2,h2⟩⟩
theorem Flows.ex {ts:List Int}{pts:List Pnt}(w:WG ts pts):Nonempty (Flows ts pts):=by
 obtain ⟨Aa,a1,a2⟩ := lN pts.length ts.length (fun i v => v < ts.length ∧ ¬ Na ts pts (i,v)) (fun i v _ h => h.1)
 obtain ⟨Am,b1,b2⟩ := lN pts.length ts.length (fun i v => Mb ts pts (i,v)) (fun i v _ h => EG w h)
 obtain ⟨An,c1,c2⟩ := lN pts.length ts.length (fun i v => Nd ts pts (i,v)) (fun i v _ h => qV w h)
 obtain ⟨Al,d1,d2⟩ := lN pts.length ts.length (fun i v => Lv ts pts i v) (fun i v _ h => by obtain ⟨k,_,h⟩ := h;exact qV w h)
 obtain ⟨Ap,e1,e2⟩ := lN pts.length pts.length (fun i l => IM ts pts (i,l)) (fun i v _ h => (rN h).1)
 obtain ⟨Af,f1,f2⟩ := lN (pts.length * 6) pts.length (fun q l => GB ts pts (q / 6,q % 6,l)) (fun q v _ h => (Cg w h).2.2)
 refine ⟨⟨Aa,Am,An,Al,Af,Ap,⟨a1,a2⟩,⟨b1,b2⟩,⟨c1,c2⟩,⟨d1,d2⟩,⟨f1,fun i v hi hv l => ?_⟩,⟨e1,e2⟩⟩⟩
 rw [f2 (i * 6 + v) (by omega) l,show (i * 6 + v) / 6 = i by omega,show (i * 6 + v) % 6 = v by omega]
def Flows.iss {ts : List Int} {pts : List Pnt} (f : Flows ts pts) : List Iss := nZ ts pts f.Aa f.Am f.Al f.Af f.Ap pts.length
end Go.AL
