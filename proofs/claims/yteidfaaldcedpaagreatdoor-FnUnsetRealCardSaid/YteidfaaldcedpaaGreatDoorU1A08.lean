/-
 A part of the proofs over this program: rules and contracts of its functions (the rules).
-/
import Derived.Test.YteidfaaldcedpaaGreatDoorU1A07
set_option linter.unusedVariables false
set_option linter.unusedSimpArgs false
namespace Go.AL
open Go.RowKit
theorem Gj {P:Program}{N:Nat}{Q:Exit → AS → Prop}{all:Array Oper}{rest:List Oper}{ts:List (Nat × AV)}{hs:List (Nat × Option (List AV))}{n:Nat}{z0:Lo}{d:Nat}{ty:TypeId}{pos:String}{af:Array Edge}
  {t t' el : TypeId} {x : Operand} {id off m e : Nat} [ht : SlT P t el] (hx : ev (lk ts) x = some (.own id off m e)) (hN : Nat.blt d N = true)
  (kk : ∀ b : Bool,(b = true → m = 0) → RW P N all Q .txt rest ⟨(d,.v (.bool b)) :: ts,hs,n,z0⟩) : RW P N all Q .txt (⟨some d,.binOp .eql t x (.const (.slice none 0 0)) t',ty,pos,af,none⟩ :: rest) ⟨ts,hs,n,z0⟩ := by
 rintro C a w hCN ⟨h0,ι,g,gh⟩
 refine wpList_plain rfl (fun K hK => ?_)
 have h1 := bU g hx
 simp only [Rd] at h1
 obtain ⟨a', m', c, h2, hb⟩ : ∃ a' m' c, a.eval x = .slice a' m' c ∧ (a'.isNone = true → m = 0) := by
  rcases h1 with ⟨_,rfl,a',h2⟩ | ⟨b,β,c,_,h2,_⟩
  ·exact ⟨a',0,0,h2,fun _ => rfl⟩
  ·exact ⟨_,m,c,h2,fun h => by cases h⟩
 have hu := iA ht.pf
 have hg : (eqGuard .eql t x (.const (.slice none 0 0)) (.slice a' m' c) (.slice none 0 0)).run P w = .ok () w := by simp [eqGuard]
 have hr : (execOp a.eval ⟨some d, .binOp .eql t x (.const (.slice none 0 0)) t', ty, pos, af, none⟩).run P w = .ok (.value (.bool a'.isNone)) w := by
  have e2 : a.eval (.const (.slice none 0 0)) = .slice none 0 0 := rfl
  simp only [execOp,h2,e2,Sem.run_bind,hg,Result.andThen_ok,xJ w t el hu,Sem.run_pure]
 simp only [Oper.wp,hr,Oper.upon]
 refine hK _ _ (kk a'.isNone hb C _ _ hCN ⟨h0,ι,?_,gh⟩)
 show TG C ι (lk ((d,AV.v (.bool a'.isNone)) :: ts)) _ _ _
 rw [iH]
 exact g.put (by have := cS hN;omega) (by simp [Rd])
def PN (x : Pnt) : Prop := x.op = 9 ∨ x.op = 10 ∨ x.op = 11 ∨ (1 ≤ x.op ∧ x.op ≤ 8 ∧ 0 ≤ x.x ∧ x.x ≤ 5 ∧ 0 ≤ x.y ∧ x.y ≤ 5 ∧ 0 ≤ x.n ∧ x.n ≤ 9)
theorem Jm {ts:List Int}{s:Stmt}(h:c6 ts s = true):(0 ≤ s.n ∧ s.n ≤ 9):=by
 unfold c6 at h
 dsimp only at h
 repeat' split at h
 all_goals (first|(simp only [decide_eq_true_eq] at h;omega)|(cases h;done)|omega)
mutual
theorem Ph {ts:List Int}(ht:bW ts = true):∀ (s:Stmt) (d b:Nat),sV ts d s = true → ∀ x ∈ wR b s,PN x
 | .mk op x y n th el, d, b, h => by
  simp only [sV] at h
  split at h
  ·rename_i hop
   simp only [Bool.and_eq_true] at h
   have hs := xS ht h.2
   have hn := Jm h.2
   simp only [Stmt.op,Stmt.x,Stmt.y,Stmt.n] at hs hn
   simp only [wR,hop.1,hop.2,if_false,List.mem_singleton]
   rintro z rfl
   exact .inr (.inr (.inr ⟨hs.1,hs.2.1,hs.2.2.1,hs.2.2.2.1,hs.2.2.2.2.1,hs.2.2.2.2.2.1,hn.1,hn.2⟩))
  ·rename_i hop
   cases d with
   | zero => cases h
   | succ d =>
    simp only [Bool.and_eq_true,decide_eq_true_eq] at h
    obtain ⟨⟨⟨_,_⟩,h1⟩,h2⟩ := h
    by_cases h9 : op = 9
    ·subst h9
     simp only [wR,if_true,List.mem_append,List.mem_singleton]
     rintro z (((rfl|hz)|rfl)|hz)
     ·exact .inl rfl
     ·exact vZ ht th d (b + 1) h1 z hz
     ·exact .inr (.inl rfl)
     ·exact vZ ht el d _ h2 z hz
    ·have h10 : op = 10 := by omega
     subst h10
     simp only [wR,if_true,show ((10 : Int) = 9) = False by simp,if_false,List.mem_append,List.mem_singleton]
     rintro z ((rfl|hz)|rfl)
     ·exact .inr (.inl rfl)
     ·exact vZ ht th d (b + 1) h1 z hz
     ·exact .inr (.inl rfl)
theorem vZ {ts:List Int}(ht:bW ts = true):∀ (l:List Stmt) (d b:Nat),okL ts d l = true → ∀ x ∈ fS b l,PN x
 | [],d,b,h => by simp [fS]
 | s :: l, d, b, h => by
  simp only [okL,Bool.and_eq_true] at h
  simp only [fS,List.mem_append]
  rintro x (hx|hx)
  ·exact Ph ht s d b h.1 x hx
  ·exact vZ ht l d (b + pD s) h.2 x hx
end
theorem Kz {p:Prg}(h:bE p = true){i:Nat}(hi:i < (aD p).length):PN (aD p)[i]!:=by
 unfold bE at h
 simp only [Bool.and_eq_true,decide_eq_true_eq] at h
 obtain ⟨⟨ht,hl⟩,hc⟩ := h
 have hm := aS _ i hi
 unfold aD at hm
 rw [List.mem_append,List.mem_singleton] at hm
 rcases hm with hm|hm
 ·exact vZ ht p.body 4 0 hl _ hm
 ·unfold aD;rw [hm]; exact .inr (.inr (.inl rfl))
def iY (n : Int) : ByteArray := if n ≤ 9 then AJ n else yJ [48 + n / 10] ++ (yJ [48 + n % 10] ++ .empty)
theorem oT (n:Int):(iY n).size ≤ 2:=by
 unfold iY;split
 ·rw [fY]; omega
 ·simp [yJ,ByteArray.size_append]
def C6 (x : Pnt) : ByteArray := if x.op = 11 then ⟨#[101,110,100]⟩ else if x.op = 9 then ⟨#[105,102]⟩ else if x.op = 10 then (if x.n = 1 then ⟨#[103,111]⟩ else ⟨#[108,111,111,112]⟩) else jW (.mk x.op x.x x.y x.n [] [])
theorem wH (x:Pnt):(C6 x).size ≤ 11:=by
 have := oQ (.mk x.op x.x x.y x.n [] [])
 simp only [cH,aR] at this
 unfold C6
 repeat' split
 all_goals (first|(simp only [jK,List.length_cons,List.length_nil]; omega)|omega)
def w6 (pts : List Pnt) (x : Iss) : ByteArray :=
 if x.kind = 1 then ((((iY x.point ++ ⟨#[32]⟩) ++ C6 pts[x.point.toNat]!) ++ ⟨#[58,32]⟩) ++ ⟨#[110,111,32,118,97,108,117,101,32,111,102,32]⟩) ++ gC x.with_
 else ((((((iY x.point ++ ⟨#[32]⟩) ++ C6 pts[x.point.toNat]!) ++ ⟨#[58,32]⟩) ++ ⟨#[108,111,97,110,32,111,102,32]⟩) ++ iY x.with_) ++ ⟨#[32]⟩) ++ C6 pts[x.with_.toNat]!
theorem N4 (s:ByteArray):∀ (k i:Nat) (r:List UInt8),s.size - i = k → (ByteArray.toList.loop s i r).length = k + r.length
 | 0,i,r,h => by rw [ByteArray.toList.loop,if_neg (by omega),List.length_reverse]; omega
 | k + 1, i, r, h => by
  rw [ByteArray.toList.loop,if_pos (by omega),N4 s k (i + 1) _ (by omega),List.length_cons]; omega
theorem EI (s:ByteArray):s.toList.length = s.size:=by
 unfold ByteArray.toList;rw [N4 s s.size 0 [] (by omega)]; simp
theorem MS (pts:List Pnt) (x:Iss):((w6 pts x).toList == (⟨#[]⟩:ByteArray).toList) = false:=by
 have h : 0 < (w6 pts x).size := by
  unfold w6;split <;> simp only [ByteArray.size_append,jK,List.length_cons,List.length_nil] <;> omega
 rw [← EI] at h
 have e : (⟨#[]⟩ : ByteArray).toList = [] := by
  apply List.eq_nil_of_length_eq_zero;rw [EI]; rfl
 rw [e]
 cases hq : (w6 pts x).toList with
 | nil => rw [hq] at h;simp at h
 | cons a l => rfl
def G7 (pts : List Pnt) : List Nat → List Int
 | a :: b :: l => (if pts[a]!.next.length = 2 then [if pts[a]!.next[0]! = (b : Int) then 0 else 1] else []) ++ G7 pts (b :: l)
 | _ => []
theorem PS {ts:List Int}{s:Mc}{x:Pnt}(h:x.op ≠ 11) (hc:s.cells.length ≠ 200):(cM ts s x).2 ≠ 1:=by
 have p : ∀ s v y, (bS ts s v y).2 ≠ 1 := fun s v y => by
  rcases ET ts s v y with h|h|h <;> rw [h] <;> decide
 have g : ∀ k, mE k ≠ 1 := fun k => by
  rcases DS k with h|h|h <;> rw [h] <;> decide
 have e : ∀ k, dZ k ≠ 1 := fun k => by
  rcases tV k with h|h <;> rw [h] <;> decide
 unfold cM
 rw [if_neg h,if_neg hc]
 split
 ·exact p _ _ _
 split
 ·exact p _ _ _
 split
 ·exact p _ _ _
 split
 ·split
  ·exact p _ _ _
  ·exact e _
 split
 ·split
  ·exact p _ _ _
  ·exact e _
 split
 ·exact g _
 split
 ·exact g _
 ·show (-1 : Int) ≠ 1;decide
section
variable {ts : List Int} {pts : List Pnt}
theorem Kt (w:WG ts pts){a b:Nat}{l:List Nat}(e:cO pts a b):gU pts a (G7 pts (a :: b :: l)) = (b,G7 pts (b :: l)):=by
 have hnl := w.nl a e.1
 have hm := e.2
 generalize hN : pts[a]!.next = N at hnl hm
 unfold gU
 rw [G7,hN]
 match N,hnl,hm with
 | [x], _, hm =>
  rw [List.mem_singleton] at hm
  simp [← hm]
 | [x, y], _, hm =>
  simp only [List.mem_cons,List.not_mem_nil,or_false] at hm
  by_cases h : x = (b : Int)
  ·simp [h]
  ·have h2 : y = (b : Int) := by
    rcases hm with hm|hm
    ·exact absurd hm.symm h
    ·exact hm.symm
   simp [h,h2]
 | _ :: _ :: _ :: _,hnl,_ => simp only [List.length_cons] at hnl;omega
theorem KS {a v:Nat}(hu:aV ts pts[a]! v ≠ 0):pts[a]!.op ≠ 11:=by
 intro h
 apply hu
 unfold aV
 rw [if_neg (by omega),if_neg (by omega),if_neg (by omega),if_neg (by omega)]
theorem OW {s:Mc}{x:Pnt}{v:Nat}(hv:v < ts.length) (hu:aV ts x v ≠ 0) (hs:s.slots[v]!.set = false):cG ts s x = true:=by
 unfold cG
 rw [List.any_eq_true]
 exact ⟨v,List.mem_range.2 hv,by rw [hs,decide_eq_true hu]; rfl⟩
theorem xN (w:WG ts pts) (A:WA ts pts) (E:∀ a,a < pts.length → pts[a]!.op = 11 → pts[a]!.next = []){z v:Nat}(hv:v < ts.length) (hu:aV ts pts[z]! v ≠ 0) (hm:¬ Mb ts pts (z,v)) :
  ∀ (T : List Nat) (a : Nat) (s : Mc) (n last : Nat),Chn pts (a :: T) → (∃ B,a :: T = B ++ [z]) → a < pts.length → T.length < n → Vs ts pts a s → s.cells.length + T.length < 200 →
  (k7 ts pts (e6 pts n a (G7 pts (a :: T))).1 s last).2.1 ≠ 0 ∧ (k7 ts pts (e6 pts n a (G7 pts (a :: T))).1 s last).2.1 ≠ 1
 | [], a, s, n, last, _, hB, ha, hn, hV, _ => by
  obtain ⟨B,hB⟩ := hB
  have : a = z := by
   have h := congrArg List.getLast? hB
   simpa using h
  subst this
  obtain ⟨n,rfl⟩ : ∃ m,n = m + 1 := ⟨n - 1,by omega⟩
  have h11 := KS hu
  have hs : s.slots[v]!.set = false := by
   cases q : s.slots[v]!.set with
   | false => rfl
   | true => exact absurd (hV.m v hv q) hm
  have e : (e6 pts (n + 1) a (G7 pts [a])).1 = a :: (e6 pts n (gU pts a (G7 pts [a])).1 (gU pts a (G7 pts [a])).2).1 := by rw [e6,if_neg h11]
  rw [e]
  unfold k7
  rw [if_pos (OW hv hu hs)]
  exact ⟨by show (2 : Int) ≠ 0;decide,by show (2 : Int) ≠ 1;decide⟩
 | b :: T, a, s, n, last, hC, hB, ha, hn, hV, hc => by
  obtain ⟨n,rfl⟩ : ∃ m,n = m + 1 := ⟨n - 1,by omega⟩
  have he : cO pts a b := hC.1
  have h11 : pts[a]!.op ≠ 11 := fun h => by
   have h1 := he.2
   rw [E a ha h] at h1;cases h1
  have e : (e6 pts (n + 1) a (G7 pts (a :: b :: T))).1 = a :: (e6 pts n b (G7 pts (b :: T))).1 := by rw [e6,if_neg h11,Kt w he]
  rw [e]
  unfold k7
  have hb : b < pts.length := cZ w he
  by_cases h1 : cG ts s pts[a]! = true
  ·rw [if_pos h1]; exact ⟨by show (2 : Int) ≠ 0;decide,by show (2 : Int) ≠ 1;decide⟩
  ·rw [if_neg h1]
   have h1' : cG ts s pts[a]! = false := by simpa using h1
   by_cases h2 : (cM ts s pts[a]!).2 = -1
   ·rw [if_pos h2]
    have hcl := KN ts s pts[a]!
    rw [List.length_cons] at hn hc
    obtain ⟨B,hB⟩ := hB
    refine xN w A E hv hu hm T b _ n a hC.2 ?_ hb (by omega) (Vs.step w A a s b ha h11 he hV h1' h2) (by omega)
    cases B with
    | nil => simp at hB
    | cons x B => injection hB with _ h;exact ⟨B,h⟩
   ·rw [if_neg h2]
    have h3 := PS (ts := ts) (s := s) h11 (by omega)
    refine ⟨fun h => ?_,h3⟩
    rcases OO (ts := ts) (s := s) h11 with q|q|q|q <;> (rw [q] at h;cases h)
theorem HT {p:Prg}(h:bE p = true):∀ a,a < (aD p).length → (aD p)[a]!.op = 11 → (aD p)[a]!.next = []:=by
 intro a ha h11
 have h1 := ((WA.of_valid h).e a ha).1 h11
 have hlen := j6 p
 have hpl := bV p.body 0
 have e : a = (fS 0 p.body).length := by omega
 have e2 : (aD p)[a]! = ⟨11, 0, 0, 0, []⟩ := by
  unfold aD
  rw [aY _ _ (by rw [List.length_append,List.length_singleton]; omega)]
  simp [e]
 rw [e2]
theorem Nn (w:WG ts pts) (f:Flows ts pts){x:Iss}(hx:x ∈ f.iss) (hk:x.kind = 1):∃ a v:Nat,x = ⟨(a:Int),1,(v:Int)⟩ ∧ a < pts.length ∧ v < ts.length ∧ aV ts pts[a]! v ≠ 0:=by
 have hpl := w.pl
 have htl := w.tl
 unfold Flows.iss pZ at hx
 obtain ⟨i,hi,hx⟩ := List.mem_flatMap.1 hx
 rw [List.mem_range] at hi
 unfold G6 at hx
 rcases List.mem_append.1 hx with hx|hx
 ·obtain ⟨z, hz, e⟩ := List.mem_map.1 hx
  obtain ⟨v,hv1,hv2,rfl⟩ := cJ.1 hz
  rw [c8,cC] at hv2
  simp only [Bool.and_eq_true,decide_eq_true_eq] at hv2
  refine ⟨i,v,e.symm,hi,hv2.1.1,fun h => ?_⟩
  have := hv2.1.2
  rw [h] at this;revert this;decide
 ·obtain ⟨z, hz, e⟩ := List.mem_map.1 hx
  rw [← e] at hk
  exfalso
  revert hk
  show (if _ then (3 : Int) else 2) = 1 → False
  split <;> decide
end
end Go.AL
