/-
 A part of the proofs over this program: rules and contracts of its functions (the rules).
-/
import Derived.Test.YtahdccneecdmmaaGreatE1A03
set_option linter.unusedVariables false
set_option linter.unusedSimpArgs false
namespace Go.AL
open Go.RowKit
variable {P : Program} {N : Nat} {Q : Exit → AS → Prop} {all : Array Oper} {rest : List Oper} {ts : List (Nat × AV)} {hs : List (Nat × Option (List AV))} {n : Nat} {z0 : Lo} {md : Md}
variable {d : Nat} {ty : TypeId} {pos : String} {af : Array Edge}
section
def tV : AV → Option (FuncId × List AV × List AV)
 | .clos (.func k) f c => some (k,f,c)
 | .v (.func (.func k) ⟨[]⟩ ⟨[]⟩) => some (k,[],[])
 | _ => none
theorem vJ {w:World}{bad:Nat → Prop}{ι:Pl}{av:AV}{y:Value}{k:FuncId}{f c:List AV}(h:tV av = some (k,f,c)) (hy:Rd w bad ι av y) :
  ∃ lf lc : List Value,y = .func (.func k) lf.toArray lc.toArray ∧ RdV w bad ι f lf ∧ RdV w bad ι c lc := by
 unfold tV at h
 split at h
 ·cases h;simpa only [Rd] using hy
 ·cases h;simp only [Rd] at hy;exact ⟨[],[],hy,by simp [RdV],by simp [RdV]⟩
 ·cases h
theorem iR {w:World}{bad:Nat → Prop}{ι:Pl}:∀ {a b:List AV}{la lb:List Value},RdV w bad ι a la → RdV w bad ι b lb → RdV w bad ι (a ++ b) (la ++ lb)
 | [],b,la,lb,h1,h2 => by simp only [RdV] at h1;subst h1;exact h2
 | x :: a, b, la, lb, h1, h2 => by
  simp only [RdV] at h1
  obtain ⟨y,l',rfl,h3,h4⟩ := h1
  simp only [List.cons_append,RdV]
  exact ⟨y,_,rfl,h3,iR h4 h2⟩
theorem rU {k:FuncId}{t:Nat}{args:Array Operand}{tys:Array TypeId}(hc:fY P k = true) (dst:Option Tmp) (a:Act) (w:World){lf lc:List Value}(hy:a.eval (.tmp t) = .func (.func k) lf.toArray lc.toArray) :
  (execOp a.eval ⟨dst,.call ⟨.value (.tmp t),args,tys⟩,ty,pos,af,none⟩).run P w = .ok (.enter k (lf ++ args.toList.map a.eval ++ lc).toArray) w := by
 simp only [execOp,Sem.run_bind,resolve,hy,Deferred.ofValue,Sem.run_pure,Result.andThen_ok,invoke,yZ hc]
 congr 2
 apply Array.ext'
 simp
theorem GH {k:FuncId}{t:Nat}{args:Array Operand}{tys:Array TypeId}{avs f c:List AV}{fv:AV}{r:AV}(hc:fY P k = true) (hx:lk ts t = some fv) (hcl:tV fv = some (k,f,c)) (ha:evL (lk ts) args.toList = some avs)
  (h : PC P k (f ++ avs ++ c) (fun x => x = r)) (hp : bK (f ++ avs ++ c) = true) (hN : d < N)
  (kk : RW P N all Q (md.add (rO (.tmp t) ++ fR args.toList) [.inl d]) rest ⟨(d,r) :: ts,hs,n,z0⟩) : RW P N all Q md (⟨some d,.call ⟨.value (.tmp t),args,tys⟩,ty,pos,af,none⟩ :: rest) ⟨ts,hs,n,z0⟩ := by
 refine hO (rs := rO (.tmp t) ++ fR args.toList) (ws := []) (n' := n) (out := r) rfl (Nat.le_refl _) (.inl rfl) (fun C ι F T H a w K Q' hCN ag hF g gh hK => ?_) (fun x hx => by cases hx;exact hN) kk
 obtain ⟨lf,lc,hy,h1,h2⟩ := vJ hcl (bZ g (x := .tmp t) (ag.l.ev.trans hx))
 simp only [Oper.wp,rU hc _ a w hy,Oper.upon]
 refine (vL h hp gh (iR (iR h1 (iM g (ag.r.evL.trans ha))) h2)).mono ?_
 rintro e w' ⟨v,r',rfl,h2,h3,h4,h5,h6⟩
 subst h2
 exact hK ι w' v (g.carry h5) (h4.less (fun _ _ h => h) (fun j hj => hj.1)).1 h6
theorem gC {k:FuncId}{t:Nat}{args:Array Operand}{tys:Array TypeId}{avs f c:List AV}{fv:AV}{r:AV}(hx:lk ts t = some fv) (hcl:tV fv = some (k,f,c)) (hc:CaT P k) (ha:evL (lk ts) args.toList = some avs)
  (h : PC P k (f ++ avs ++ c) (fun x => x = r)) (hp : bK (f ++ avs ++ c) = true) (hN : Nat.blt d N = true) {md' : Md} [hmd : MdA md (rO (.tmp t) ++ fR args.toList) [.inl d] md']
  (kk : RW P N all Q md' rest ⟨(d,r) :: ts,hs,n,z0⟩) : RW P N all Q md (⟨some d,.call ⟨.value (.tmp t),args,tys⟩,ty,pos,af,none⟩ :: rest) ⟨ts,hs,n,z0⟩ :=
 GH hc.pf hx hcl ha h hp (dN hN) (by rw [hmd.pf]; exact kk)
theorem lX {fn:Go.Fn}{fs cs:Array Operand}{f c:List AV}(hf:evL (lk ts) fs.toList = some f) (hc:evL (lk ts) cs.toList = some c) (hN:Nat.blt d N = true){md':Md}[hmd:MdA md (fR fs.toList ++ fR cs.toList) [.inl d] md']
  (kk : RW P N all Q md' rest ⟨(d,.clos fn f c) :: ts,hs,n,z0⟩) : RW P N all Q md (⟨some d,.makeFunc fn fs cs,ty,pos,af,none⟩ :: rest) ⟨ts,hs,n,z0⟩ := by
 refine fC (out := .clos fn f c) (rs := fR fs.toList ++ fR cs.toList) rfl rfl (dN hN) (fun C ι F T H a w ag g gh => ?_) (by rw [hmd.pf]; exact kk)
 refine ⟨.func fn (fs.map a.eval) (cs.map a.eval),by simp [execOp,Instr.makeFunc],?_⟩
 simp only [Rd]
 exact ⟨fs.toList.map a.eval,cs.toList.map a.eval,by rw [← Array.toList_map,← Array.toList_map,Array.toArray_toList,Array.toArray_toList],iM g (ag.l.evL.trans hf),iM g (ag.r.evL.trans hc)⟩
end
class Sm (n : Nat) : Prop where pf : n < 2 ^ 62
def gX (a b : Nat) : Nat := a ^^^ (a &&& b)
theorem b6 (a b i:Nat):(gX a b).testBit i = (a.testBit i && !b.testBit i):=by
 simp only [gX,Nat.testBit_xor,Nat.testBit_and]; cases a.testBit i <;> cases b.testBit i <;> rfl
instance (a b : Nat) [h : Sm a] [h2 : Sm b] : Sm (a ||| b):=⟨Nat.or_lt_two_pow h.pf h2.pf⟩
instance (a b : Nat) [h : Sm a] : Sm (a &&& b):=⟨Nat.lt_of_le_of_lt Nat.and_le_left h.pf⟩
instance (a b : Nat) [h : Sm a] : Sm (gX a b):=⟨Nat.xor_lt_two_pow h.pf (Nat.lt_of_le_of_lt Nat.and_le_left h.pf)⟩
instance (a b : Nat) [h : Sm a] : Sm (a >>> b):=⟨Nat.lt_of_le_of_lt (by rw [Nat.shiftRight_eq_div_pow]; exact Nat.div_le_self _ _) h.pf⟩
instance : Sm 0:=⟨by decide⟩
instance : Sm 1:=⟨by decide⟩
theorem Sm.pow {k:Nat}(h:k < 62):Sm (2 ^ k) := ⟨Nat.pow_lt_pow_right (by decide) h⟩
class K6 (k : IntKind) : Prop where pf : k = .i64 ∨ k = .u64
instance : K6 .i64:=⟨.inl rfl⟩
instance : K6 .u64:=⟨.inr rfl⟩
theorem oZ {k:IntKind}[hk:K6 k] {a:Nat}(h:a < 2 ^ 62):k.wrap (a:Int) = (a:Int):=by
 rcases hk.pf with rfl|rfl
 ·exact G6 (by omega)
 ·simp only [IntKind.wrap]
  first
  | (simp [IntKind.bits,IntKind.signed]; omega)
  | omega
theorem Aq {k:IntKind}[hk:K6 k]:k.bits = 64 := by rcases hk.pf with rfl | rfl <;> rfl
theorem jZ (a:Nat) (h:a < 2 ^ 62):BitVec.ofInt 64 (a:Int) = BitVec.ofNat 64 a := Et (a:Int) ⟨by omega,by omega⟩
theorem lL (a:Nat) (h:a < 2 ^ 62):(BitVec.ofNat 64 a).toNat = a := by rw [BitVec.toNat_ofNat,Nat.mod_eq_of_lt (by omega)]
theorem Is {k:IntKind}[hk:K6 k] (a b:Nat) [ha:Sm a] [hb:Sm b]:iD .or k a b = some (.int k ((a ||| b:Nat):Int)):=by
 simp only [iD]; rw [Aq,jZ a ha.pf,jZ b hb.pf,BitVec.toNat_or,lL a ha.pf,lL b hb.pf,oZ (Nat.or_lt_two_pow ha.pf hb.pf)]
theorem zG {k:IntKind}[hk:K6 k] (a b:Nat) [ha:Sm a] [hb:Sm b]:iD .and k a b = some (.int k ((a &&& b:Nat):Int)):=by
 simp only [iD]; rw [Aq,jZ a ha.pf,jZ b hb.pf,BitVec.toNat_and,lL a ha.pf,lL b hb.pf,oZ (Nat.and_lt_two_pow _ hb.pf)]
theorem Gz {k:IntKind}[hk:K6 k] (a b:Nat) [ha:Sm a] [hb:Sm b]:iD .andNot k a b = some (.int k ((gX a b:Nat):Int)):=by
 simp only [iD]
 have e : (BitVec.ofInt 64 (a : Int) &&& ~~~ BitVec.ofInt 64 (b : Int)).toNat = gX a b := by
  rw [jZ a ha.pf,jZ b hb.pf]
  apply Nat.eq_of_testBit_eq
  intro i
  rw [BitVec.toNat_and,Nat.testBit_and,b6,lL a ha.pf]
  cases h : a.testBit i with
  | false => simp
  | true =>
   have hi : i < 64 := by
    rcases Nat.lt_or_ge i 62 with h1|h1
    ·omega
    ·have := Nat.testBit_lt_two_pow (Nat.lt_of_lt_of_le ha.pf (Nat.pow_le_pow_right (by decide) h1));rw [h] at this;cases this
   rw [← BitVec.getLsbD,BitVec.getLsbD_not,BitVec.getLsbD_ofNat]
   simp [hi]
 rw [Aq,e,oZ (inferInstance : Sm (gX a b)).pf]
theorem ER {k:IntKind}[hk:K6 k] (m:Int) (h:0 ≤ m ∧ m < 62):iD .shl k 1 m = some (.int k ((2 ^ m.toNat:Nat):Int)):=by
 obtain ⟨j,rfl⟩ := Int.eq_ofNat_of_zero_le h.1
 simp only [iD]
 rw [if_neg (by omega),Aq,Int.toNat_natCast,Nat.min_eq_left (by omega),Int.one_mul]
 rw [show ((2 : Int) ^ j) = ((2 ^ j : Nat) : Int) by simp,oZ (Sm.pow (by omega)).pf]
theorem FF {k:IntKind}[hk:K6 k] (a:Nat) [ha:Sm a] (m:Int) (h:0 ≤ m ∧ m < 64):iD .shr k a m = some (.int k ((a >>> m.toNat:Nat):Int)):=by
 obtain ⟨j,rfl⟩ := Int.eq_ofNat_of_zero_le h.1
 simp only [iD]
 rw [if_neg (by omega),Aq,Int.toNat_natCast,Nat.min_eq_left (by omega)]
 congr 2
 rw [Nat.shiftRight_eq_div_pow,Int.fdiv_eq_ediv_of_nonneg _ (by exact Int.le_of_lt (Int.pow_pos (by decide)))]
 simp
section
theorem LG {k:IntKind}{t t':TypeId}{x y:Operand}{a b:Nat}(hx:ev (lk ts) x = some (.v (.int k (a:Int)))) (hy:ev (lk ts) y = some (.v (.int k (b:Int)))) (hk:K6 k) (ha:Sm a) (hb:Sm b)
  (hN : Nat.blt d N = true) {md' : Md} [hmd : MdA md (rO x ++ rO y) [.inl d] md'] (kk : RW P N all Q md' rest ⟨(d,.v (.int k ((a ||| b : Nat) : Int))) :: ts,hs,n,z0⟩) : RW P N all Q md (⟨some d,.binOp .or t x y t',ty,pos,af,none⟩ :: rest) ⟨ts,hs,n,z0⟩ :=
 fG hx hy (.inl rfl) (Is a b) (dN hN) (by rw [hmd.pf]; exact kk)
theorem Jd {k:IntKind}{t t':TypeId}{x y:Operand}{a b:Nat}(hx:ev (lk ts) x = some (.v (.int k (a:Int)))) (hy:ev (lk ts) y = some (.v (.int k (b:Int)))) (hk:K6 k) (ha:Sm a) (hb:Sm b)
  (hN : Nat.blt d N = true) {md' : Md} [hmd : MdA md (rO x ++ rO y) [.inl d] md'] (kk : RW P N all Q md' rest ⟨(d,.v (.int k ((a &&& b : Nat) : Int))) :: ts,hs,n,z0⟩) : RW P N all Q md (⟨some d,.binOp .and t x y t',ty,pos,af,none⟩ :: rest) ⟨ts,hs,n,z0⟩ :=
 fG hx hy (.inl rfl) (zG a b) (dN hN) (by rw [hmd.pf]; exact kk)
theorem Jg {k:IntKind}{t t':TypeId}{x y:Operand}{a b:Nat}(hx:ev (lk ts) x = some (.v (.int k (a:Int)))) (hy:ev (lk ts) y = some (.v (.int k (b:Int)))) (hk:K6 k) (ha:Sm a) (hb:Sm b)
  (hN : Nat.blt d N = true) {md' : Md} [hmd : MdA md (rO x ++ rO y) [.inl d] md'] (kk : RW P N all Q md' rest ⟨(d,.v (.int k ((gX a b : Nat) : Int))) :: ts,hs,n,z0⟩) : RW P N all Q md (⟨some d,.binOp .andNot t x y t',ty,pos,af,none⟩ :: rest) ⟨ts,hs,n,z0⟩ :=
 fG hx hy (.inl rfl) (Gz a b) (dN hN) (by rw [hmd.pf]; exact kk)
theorem fU {k k':IntKind}{t t':TypeId}{x y:Operand}{m:Int}(hx:ev (lk ts) x = some (.v (.int k 1))) (hy:ev (lk ts) y = some (.v (.int k' m))) (hk:K6 k) (h:0 ≤ m ∧ m < 62)
  (hN : Nat.blt d N = true) {md' : Md} [hmd : MdA md (rO x ++ rO y) [.inl d] md'] (kk : Sm (2 ^ m.toNat) → RW P N all Q md' rest ⟨(d,.v (.int k ((2 ^ m.toNat : Nat) : Int))) :: ts,hs,n,z0⟩) : RW P N all Q md (⟨some d,.binOp .shl t x y t',ty,pos,af,none⟩ :: rest) ⟨ts,hs,n,z0⟩ :=
 fG hx hy (.inr (.inl rfl)) (ER m h) (dN hN) (by rw [hmd.pf]; exact kk (Sm.pow (by omega)))
theorem JV {k k':IntKind}{t t':TypeId}{x y:Operand}{a:Nat}{m:Int}(hx:ev (lk ts) x = some (.v (.int k (a:Int)))) (hy:ev (lk ts) y = some (.v (.int k' m))) (hk:K6 k) (ha:Sm a) (h:0 ≤ m ∧ m < 64)
  (hN : Nat.blt d N = true) {md' : Md} [hmd : MdA md (rO x ++ rO y) [.inl d] md'] (kk : RW P N all Q md' rest ⟨(d,.v (.int k ((a >>> m.toNat : Nat) : Int))) :: ts,hs,n,z0⟩) : RW P N all Q md (⟨some d,.binOp .shr t x y t',ty,pos,af,none⟩ :: rest) ⟨ts,hs,n,z0⟩ :=
 fG hx hy (.inr (.inr rfl)) (FF a m h) (dN hN) (by rw [hmd.pf]; exact kk)
end
mutual
def nP : Stmt → Nat
 | .mk op _ _ _ th el => if op = 9 then 2 + cX th + cX el else if op = 10 then 2 + cX th else 1
def cX : List Stmt → Nat
 | [] => 0
 | s :: l => nP s + cX l
end
mutual
def uD (b : Nat) : Stmt → List Pnt
 | .mk op x y n th el =>
  if op = 9 then [⟨9,0,0,0,[(b : Int) + 1,(b : Int) + 1 + cX th + 1]⟩] ++ fO (b + 1) th ++ [⟨10,0,0,1,[(b : Int) + 2 + cX th + cX el]⟩] ++ fO (b + 2 + cX th) el
  else if op = 10 then [⟨10,0,0,0,[(b : Int) + 1,(b : Int) + 2 + cX th]⟩] ++ fO (b + 1) th ++ [⟨10,0,0,1,[(b : Int)]⟩]
  else [⟨op,x,y,n,[(b : Int) + 1]⟩]
def fO (b : Nat) : List Stmt → List Pnt
 | [] => []
 | s :: l => uD b s ++ fO (b + nP s) l
end
mutual
theorem Df:∀ (s:Stmt) (b:Nat),(uD b s).length = nP s
 | .mk op x y n th el, b => by
  have h1 := bQ th (b + 1)
  have h2 := bQ el (b + 2 + cX th)
  simp only [uD,nP]
  split
  ·simp [h1,h2]; omega
  ·split
   ·simp [h1]; omega
   ·simp
theorem bQ:∀ (l:List Stmt) (b:Nat),(fO b l).length = cX l
 | [],b => by simp [fO,cX]
 | s :: l,b => by simp only [fO,cX,List.length_append,Df s b,bQ l (b + nP s)]
end
mutual
theorem Kw:∀ (s:Stmt),nP s ≤ 2 * eH s
 | .mk op x y n th el => by
  have h1 := lS th
  have h2 := lS el
  simp only [nP,eH]; split
  ·omega
  ·split <;> omega
theorem lS:∀ (l:List Stmt),cX l ≤ 2 * aU l
 | [] => by simp [cX,aU]
 | s :: l => by have h1 := Kw s;have h2 := lS l;simp only [cX,aU]; omega
end
theorem nM:∀ a b,cX (a ++ b) = cX a + cX b
 | [],b => by simp [cX]
 | s :: a,b => by simp only [List.cons_append,cX,nM a b]; omega
theorem tE:∀ (a b:List Stmt) (k:Nat),fO k (a ++ b) = fO k a ++ fO (k + cX a) b
 | [],b,k => by simp [fO,cX]
 | s :: a,b,k => by simp only [List.cons_append,fO,cX,tE a b,List.append_assoc,Nat.add_assoc]
theorem gA (l:List Stmt) (b k:Nat) (hk:k < l.length):fO b (l.take (k + 1)) = fO b (l.take k) ++ uD (b + cX (l.take k)) l[k]!:=by
 rw [b0 _ _ hk,tE]; simp [fO]
theorem fB (l:List Stmt) (k:Nat) (hk:k < l.length):cX (l.take (k + 1)) = cX (l.take k) + nP l[k]!:=by
 rw [b0 _ _ hk,nM]; simp [cX]
theorem AJ (l:List Stmt) (k:Nat):cX (l.take k) ≤ cX l:=by
 conv => rhs;rw [← List.take_append_drop k l]
 rw [nM]; omega
theorem wV (s:Stmt):nP s = if s.op = 9 then 2 + cX s.th + cX s.el else if s.op = 10 then 2 + cX s.th else 1:=by
 cases s;simp only [nP,Stmt.op,Stmt.th,Stmt.el]; rfl
theorem hZ (b:Nat) (s:Stmt):uD b s = if s.op = 9 then [⟨9,0,0,0,[(b:Int) + 1,(b:Int) + 1 + cX s.th + 1]⟩] ++ fO (b + 1) s.th ++ [⟨10,0,0,1,[(b:Int) + 2 + cX s.th + cX s.el]⟩] ++ fO (b + 2 + cX s.th) s.el
  else if s.op = 10 then [⟨10,0,0,0,[(b : Int) + 1,(b : Int) + 2 + cX s.th]⟩] ++ fO (b + 1) s.th ++ [⟨10,0,0,1,[(b : Int)]⟩]
  else [⟨s.op,s.x,s.y,s.n,[(b : Int) + 1]⟩] := by
 cases s;simp only [uD,Stmt.op,Stmt.th,Stmt.el,Stmt.x,Stmt.y,Stmt.n]; rfl
def aB (p : Prg) : List Pnt := fO 0 p.body ++ [⟨11,0,0,0,[]⟩]
theorem lJ (p:Prg):(aB p).length = cX p.body + 1 := by simp [aB,bQ]
theorem eV {α:Type}{f:α → List AV}{e:Nat}[h:FlT f e] {xs:List α}{m:Nat}{new:List AV}{y:α}(hm:m = xs.length) (hn:new = f y):((flat f xs).drop 0).take (m * e) ++ new = flat f (xs ++ [y]):=by
 subst hm hn
 rw [List.drop_zero,List.take_of_length_le (by rw [aI f (e := e)]; exact Nat.le_refl _),← cP,k8]
theorem FT {xs:List Pnt}{m:Nat}{a b c d:Int}(hm:m = xs.length):((flat cC xs).drop 0).take (m * 5) ++ [iv a,iv b,iv c,iv d,.imm 0 []] = flat cC (xs ++ [⟨a,b,c,d,[]⟩]) := eV hm rfl
theorem GJ {xs:List Pnt}{m:Nat}{a b c d e:Int}(hm:m = xs.length):((flat cC xs).drop 0).take (m * 5) ++ [iv a,iv b,iv c,iv d,.imm 1 [iv e]] = flat cC (xs ++ [⟨a,b,c,d,[e]⟩]) := eV hm rfl
theorem J3 {xs:List Int}{m:Nat}{a:Int}(hm:m = xs.length):((flat cI xs).drop 0).take (m * 1) ++ [iv a] = flat cI (xs ++ [a]) := eV hm rfl
theorem Ju (A B C new:List AV) (j:Nat) (hj:j + new.length ≤ B.length):gQ (A ++ (B ++ C)) (A.length + j) new = A ++ (gQ B j new ++ C):=by
 unfold gQ
 rw [List.take_length_add_append,Nat.add_assoc,List.drop_length_add_append,List.take_append_of_le_length (by omega),List.drop_append_of_le_length hj]
 simp only [List.append_assoc]
theorem Cn {α:Type}[Inhabited α] {f:α → List AV}{e:Nat}[h:FlT f e] {xs:List α}{k:Nat}(hk:k < xs.length):flat f xs = flat f (xs.take k) ++ (f xs[k]! ++ flat f (xs.drop (k + 1))):=by
 rw [← eX f (e := e) xs k hk,← dZ f (e := e),List.take_append_drop]
theorem fZ {α:Type}[Inhabited α] {f:α → List AV}{e:Nat}[h:FlT f e] {xs:List α}{k j:Nat}{new:List AV}{y:α}(hk:k < xs.length) (hj:j + new.length ≤ e) (hy:gQ (f xs[k]!) j new = f y):gQ (flat f xs) (0 + k * e + j) new = flat f (xs.set k y):=by
 have h3 : (flat f (xs.take k)).length = k * e := by rw [aI f (e := e),List.length_take]; congr 1;omega
 rw [Cn (e := e) hk,Nat.zero_add,← h3,Ju _ _ _ _ _ (by rw [h.pf]; exact hj),hy,List.set_eq_take_append_cons_drop,if_pos hk,← cP]
 simp only [flat,List.flatMap_cons]
theorem fD {α:Type}[Inhabited α] {f:α → List AV}{e:Nat}[h:FlT f e] {xs:List α}{k:Nat}{new:List AV}{y:α}(hk:k < xs.length) (hy:new = f y):gQ (flat f xs) (0 + k * e) new = flat f (xs.set k y):=by
 subst hy
 rw [Nat.zero_add]; exact Ft f xs k y hk
theorem Fi {xs:List Pnt}{k:Nat}{a:Int}(hk:k < xs.length):gQ (flat cC xs) (0 + k * 5 + 4) [.imm 1 [iv a]] = flat cC (xs.set k { xs[k]! with next := [a] }) := fZ hk (by simp) rfl
theorem F8 {xs:List Pnt}{k:Nat}{a b:Int}(hk:k < xs.length):gQ (flat cC xs) (0 + k * 5 + 4) [.imm 2 [iv a,iv b]] = flat cC (xs.set k { xs[k]! with next := [a,b] }) := fZ hk (by simp) rfl
theorem Lr {xs:List Int}{k:Nat}{a:Int}(hk:k < xs.length):gQ (flat cI xs) (0 + k * 1) [iv a] = flat cI (xs.set k a) := fD hk rfl
theorem xY {xs:List Bool}{k:Nat}{a:Bool}(hk:k < xs.length):gQ (flat cB xs) (0 + k * 1) [bv a] = flat cB (xs.set k a) := fD hk rfl
theorem GR (s:Stmt):s.op = 9 → nP s = 2 + cX s.th + cX s.el := by intro h;rw [wV,if_pos h]
theorem BS (s:Stmt):s.op = 10 → nP s = 2 + cX s.th := by intro h;rw [wV,if_neg (by omega),if_pos h]
theorem HM (s:Stmt):¬ s.op = 9 → ¬ s.op = 10 → nP s = 1 := by intro h h2;rw [wV,if_neg h,if_neg h2]
theorem Bz (l:List Stmt) (k:Nat):k < l.length → cX (l.take k) + nP l[k]! ≤ cX l:=by
 intro h;have := AJ l (k + 1);rw [fB l k h] at this;exact this
theorem rJ {α:Type}(A:List α) (x y:α) (B:List α):(A ++ x :: B).set A.length y = A ++ y :: B:=by
 rw [List.set_append_right _ _ (Nat.le_refl _),Nat.sub_self,List.set_cons_zero]
theorem xL {α:Type}[Inhabited α] (A:List α) (x:α) (B:List α):(A ++ x :: B)[A.length]! = x:=by
 rw [a8 _ _ (by simp),List.getElem_append_right (Nat.le_refl _)]; simp
theorem x8 {xs T E:List Pnt}{p q:Pnt}{m:Nat}(hm:m = xs.length):(xs ++ [p] ++ T ++ [q] ++ E)[m]! = p:=by
 subst hm;simp only [List.append_assoc,List.singleton_append,List.cons_append,List.nil_append]; exact xL _ _ _
theorem yC {xs T E:List Pnt}{p q p':Pnt}{m:Nat}(hm:m = xs.length):(xs ++ [p] ++ T ++ [q] ++ E).set m p' = xs ++ [p'] ++ T ++ [q] ++ E:=by
 subst hm;simp only [List.append_assoc,List.singleton_append,List.cons_append,List.nil_append]; exact rJ _ _ _ _
theorem w7 {xs T E:List Pnt}{p q:Pnt}{j:Nat}(hj:j = xs.length + 1 + T.length):(xs ++ [p] ++ T ++ [q] ++ E)[j]! = q:=by
 have h : j = (xs ++ [p] ++ T).length := by simp [hj]; omega
 subst h
 rw [show xs ++ [p] ++ T ++ [q] ++ E = (xs ++ [p] ++ T) ++ q :: E by simp]; exact xL _ _ _
theorem xI {xs T E:List Pnt}{p q q':Pnt}{j:Nat}(hj:j = xs.length + 1 + T.length):(xs ++ [p] ++ T ++ [q] ++ E).set j q' = xs ++ [p] ++ T ++ [q'] ++ E:=by
 have h : j = (xs ++ [p] ++ T).length := by simp [hj]; omega
 subst h
 rw [show xs ++ [p] ++ T ++ [q] ++ E = (xs ++ [p] ++ T) ++ q :: E by simp,rJ]; simp
theorem Ck {xs T:List Pnt}{p q:Pnt}{m:Nat}(hm:m = xs.length):(xs ++ [p] ++ T ++ [q])[m]! = p:=by
 subst hm;simp only [List.append_assoc,List.singleton_append,List.cons_append,List.nil_append]; exact xL _ _ _
theorem B3 {xs T:List Pnt}{p q p':Pnt}{m:Nat}(hm:m = xs.length):(xs ++ [p] ++ T ++ [q]).set m p' = xs ++ [p'] ++ T ++ [q]:=by
 subst hm;simp only [List.append_assoc,List.singleton_append,List.cons_append,List.nil_append]; exact rJ _ _ _ _
structure WG (ts : List Int) (pts : List Pnt) : Prop where
 tl : ts.length ≤ 6
 ty : ∀ v,v < ts.length → 1 ≤ ts[v]! ∧ ts[v]! ≤ 4
 pl : pts.length ≤ 61
 p0 : 0 < pts.length
 nx : ∀ i,i < pts.length → ∀ k ∈ pts[i]!.next,0 ≤ k ∧ k < pts.length
 nl : ∀ i,i < pts.length → pts[i]!.next.length ≤ 2
 op : ∀ i,i < pts.length → 1 ≤ pts[i]!.op ∧ pts[i]!.op ≤ 11
 x : ∀ i,i < pts.length → 0 ≤ pts[i]!.x ∧ (pts[i]!.op ≤ 8 → pts[i]!.x < ts.length)
 y : ∀ i,i < pts.length → 0 ≤ pts[i]!.y ∧ (3 ≤ pts[i]!.op → pts[i]!.op ≤ 7 → pts[i]!.y < ts.length)
def Lp (nv b e : Nat) (x : Pnt) : Prop := (∀ k ∈ x.next,0 ≤ k ∧ k < (e : Int)) ∧ x.next.length ≤ 2 ∧ 1 ≤ x.op ∧ x.op ≤ 11 ∧ 0 ≤ x.x ∧ (x.op ≤ 8 → x.x < (nv : Int)) ∧ 0 ≤ x.y ∧ (3 ≤ x.op → x.op ≤ 7 → x.y < (nv : Int))
theorem BR {ts:List Int}(ht:bW ts = true){s:Stmt}(h:dI ts s = true):1 ≤ s.op ∧ s.op ≤ 8 ∧ 0 ≤ s.x ∧ s.x < ts.length ∧ 0 ≤ s.y ∧ (3 ≤ s.op → s.op ≤ 7 → s.y < ts.length):=by
 have hx := tY ht s.x
 have hy := tY ht s.y
 have bx := iG ht s.x
 have by' := iG ht s.y
 unfold dI at h
 dsimp only at h
 repeat' split at h
 all_goals first
  | (simp only [decide_eq_true_eq] at h;omega)
  | (cases h;done)
mutual
theorem KY {ts:List Int}(ht:bW ts = true):∀ (s:Stmt) (d b e:Nat),rD ts d s = true → b + nP s < e → ∀ x ∈ uD b s,Lp ts.length b e x
 | .mk op x y n th el, d, b, e, h, hb => by
  simp only [rD] at h
  split at h
  ·rename_i hop
   simp only [Bool.and_eq_true] at h
   have hs := BR ht h.2
   simp only [Stmt.op,Stmt.x,Stmt.y] at hs
   simp only [nP,hop.1,hop.2,if_false] at hb
   simp only [uD,hop.1,hop.2,if_false,List.mem_singleton]
   rintro z rfl
   refine ⟨?_,by simp,hs.1,by show op ≤ 11;omega,hs.2.2.1,fun _ => hs.2.2.2.1,hs.2.2.2.2.1,hs.2.2.2.2.2⟩
   simp only [List.mem_singleton]; rintro k rfl;omega
  ·rename_i hop
   cases d with
   | zero => cases h
   | succ d =>
    simp only [Bool.and_eq_true,decide_eq_true_eq] at h
    obtain ⟨⟨⟨_,_⟩,h1⟩,h2⟩ := h
    by_cases h9 : op = 9
    ·subst h9
     simp only [nP,if_true] at hb
     simp only [uD,if_true,List.mem_append,List.mem_singleton]
     rintro z (((rfl|hz)|rfl)|hz)
     ·refine ⟨?_, by simp, by simp, by simp, by simp, by simp, by simp, by simp⟩
      simp only [List.mem_cons,List.not_mem_nil,or_false]; rintro k (rfl|rfl) <;> omega
     ·exact rZ ht th d (b + 1) e h1 (by omega) z hz
     ·refine ⟨?_, by simp, by simp, by simp, by simp, by simp, by simp, by simp⟩
      simp only [List.mem_singleton]; rintro k rfl;omega
     ·exact rZ ht el d (b + 2 + cX th) e h2 (by omega) z hz
    ·have h10 : op = 10 := by omega
     subst h10
     simp only [nP,if_true,show ((10 : Int) = 9) = False by simp,if_false] at hb
     simp only [uD,if_true,show ((10 : Int) = 9) = False by simp,if_false,List.mem_append,List.mem_singleton]
     rintro z ((rfl|hz)|rfl)
     ·refine ⟨?_, by simp, by simp, by simp, by simp, by simp, by simp, by simp⟩
      simp only [List.mem_cons,List.not_mem_nil,or_false]; rintro k (rfl|rfl) <;> omega
     ·exact rZ ht th d (b + 1) e h1 (by omega) z hz
     ·refine ⟨?_, by simp, by simp, by simp, by simp, by simp, by simp, by simp⟩
      simp only [List.mem_singleton]; rintro k rfl;omega
theorem rZ {ts:List Int}(ht:bW ts = true):∀ (l:List Stmt) (d b e:Nat),okL ts d l = true → b + cX l < e → ∀ x ∈ fO b l,Lp ts.length b e x
 | [],d,b,e,h,hb => by simp [fO]
 | s :: l, d, b, e, h, hb => by
  simp only [okL,Bool.and_eq_true] at h
  simp only [cX] at hb
  simp only [fO,List.mem_append]
  rintro x (hx|hx)
  ·exact KY ht s d b e h.1 (by omega) x hx
  ·exact rZ ht l d (b + nP s) e h.2 (by omega) x hx
end
theorem WG.of_valid {p:Prg}(h:bI p = true):WG p.types (aB p):=by
 unfold bI at h
 simp only [Bool.and_eq_true,decide_eq_true_eq] at h
 obtain ⟨⟨ht,hl⟩,hc⟩ := h
 have hn := lS p.body
 have hlen := lJ p
 have key : ∀ i, i < (aB p).length → Lp p.types.length 0 (aB p).length (aB p)[i]! := by
  intro i hi
  have hm := aP _ i hi
  unfold aB at hm
  rw [List.mem_append,List.mem_singleton] at hm
  rcases hm with hm|hm
  ·exact rZ ht p.body 4 0 _ hl (by omega) _ hm
  ·unfold aB;rw [hm]; exact ⟨by simp,by simp,by simp,by simp,by simp,by simp,by simp,by simp⟩
 exact ⟨l6 ht, nC ht, by omega, by omega, fun i hi => (key i hi).1, fun i hi => (key i hi).2.1, fun i hi => ⟨(key i hi).2.2.1, (key i hi).2.2.2.1⟩,
  fun i hi => ⟨(key i hi).2.2.2.2.1,(key i hi).2.2.2.2.2.1⟩,fun i hi => ⟨(key i hi).2.2.2.2.2.2.1,(key i hi).2.2.2.2.2.2.2⟩⟩
inductive Clo {α : Type} (S : α → Prop) (R : α → α → Prop) : α → Prop
 | base {a : α} (h : S a) : Clo S R a
 | step {a b : α} (h : Clo S R a) (r : R a b) : Clo S R b
theorem Clo.sub {α:Type}{S:α → Prop}{R:α → α → Prop}{T:α → Prop}(h1:∀ a,S a → T a) (h2:∀ a b,T a → R a b → T b):∀ a,Clo S R a → T a:=by
 intro a h
 induction h with
 | base h => exact h1 _ h
 | step _ r ih => exact h2 _ _ ih r
def dF (pts : List Pnt) (i k : Nat) : Prop := i < pts.length ∧ (k : Int) ∈ pts[i]!.next
def Mb (ts : List Int) (pts : List Pnt) (a : Nat × Nat) : Prop := Clo (fun a => ∃ i,dF pts i a.1 ∧ aN pts[i]! = a.2) (fun a b => b.2 = a.2 ∧ dF pts a.1 b.1 ∧ a9 ts pts[a.1]! a.2 ≠ 2) a
def Na (ts : List Int) (pts : List Pnt) (a : Nat × Nat) : Prop := Clo (fun a => a.2 < ts.length ∧ (a.1 = 0 ∨ ∃ i,dF pts i a.1 ∧ a9 ts pts[i]! a.2 = 2 ∧ aN pts[i]! ≠ a.2)) (fun a b => b.2 = a.2 ∧ dF pts a.1 b.1 ∧ aN pts[a.1]! ≠ a.2) a
def Nd (ts : List Int) (pts : List Pnt) (a : Nat × Nat) : Prop := Clo (fun a => a.1 < pts.length ∧ a.2 < ts.length ∧ a9 ts pts[a.1]! a.2 ≠ 0) (fun a b => b.2 = a.2 ∧ dF pts b.1 a.1 ∧ aN pts[b.1]! ≠ a.2) a
def Lv (ts : List Int) (pts : List Pnt) (i v : Nat) : Prop := ∃ k,dF pts i k ∧ Nd ts pts (k,v)
def bU (x : Pnt) : Bool := decide (x.op = 4) || decide (x.op = 5)
def Ia (ts : List Int) (pts : List Pnt) (a : Nat × Nat × Nat) : Prop := Clo (fun a => dF pts a.2.2 a.1 ∧ bU pts[a.2.2]! = true ∧ aN pts[a.2.2]! = a.2.1)
 (fun a b => b.2.2 = a.2.2 ∧ dF pts a.1 b.1 ∧ ((aN pts[a.1]! ≠ b.2.1 ∧ b.2.1 = a.2.1 ∧ a9 ts pts[a.1]! a.2.1 ≠ 2) ∨
  (aN pts[a.1]! = b.2.1 ∧ (a.2.1 : Int) = pts[a.1]!.y ∧ ((bU pts[a.1]! = true ∧ eO ts[a.2.1]! = true) ∨ pts[a.1]!.op = 3)))) a
def J9 (ts : List Int) (pts : List Pnt) (a : Nat × Nat) : Prop := Clo (fun a => dF pts a.2 a.1 ∧ bU pts[a.2]! = true)
 (fun a b => b.2 = a.2 ∧ dF pts a.1 b.1 ∧ a9 ts pts[a.1]! pts[a.2]!.y ≠ 2 ∧ aN pts[a.1]! ≠ pts[a.2]!.y) a
def eW (f : Nat → Bool) : Nat → Nat
 | 0 => 0
 | n + 1 => eW f n ||| (if f n then 2 ^ n else 0)
theorem eQ (f:Nat → Bool):∀ (n i:Nat),(eW f n).testBit i = (decide (i < n) && f i)
 | 0,i => by simp [eW]
 | n + 1, i => by
  rw [eW,Nat.testBit_or,eQ f n i]
  by_cases h : i = n
  ·subst h;cases hf : f i <;> simp [Nat.testBit_two_pow_self]
  ·have : ((if f n = true then 2 ^ n else 0).testBit i) = false := by
    split
    ·exact Nat.testBit_two_pow_of_ne (fun e => h e.symm)
    ·simp
   rw [this,Bool.or_false]
   congr 1
   simp only [decide_eq_decide]; omega
theorem uW (f:Nat → Bool) (n:Nat):eW f n < 2 ^ n:=by
 apply Nat.lt_pow_two_of_testBit
 intro i hi
 rw [eQ]; simp;omega
theorem bO {f:Nat → Bool}{n:Nat}(h:n ≤ 62):Sm (eW f n) := ⟨Nat.lt_of_lt_of_le (uW f n) (Nat.pow_le_pow_right (by decide) h)⟩
theorem gT {σ ι:Type}(stp:σ × Bool → ι → σ × Bool) (C:ι → σ → Prop) (μ:σ → Nat) (S:σ → Prop) :
  ∀ (L : List ι),(∀ s b i,i ∈ L → S s → S (stp (s,b) i).1 ∧ ((stp (s,b) i = (s,b) ∧ C i s) ∨ ((stp (s,b) i).2 = true ∧ μ (stp (s,b) i).1 < μ s))) →
  ∀ s b,S s → S (L.foldl stp (s,b)).1 ∧ ((L.foldl stp (s,b) = (s,b) ∧ ∀ i ∈ L,C i s) ∨ ((L.foldl stp (s,b)).2 = true ∧ μ (L.foldl stp (s,b)).1 < μ s))
 | [],_,s,b,hs => ⟨hs,.inl ⟨rfl,by simp⟩⟩
 | i :: L, h, s, b, hs => by
  have h1 := h s b i (List.mem_cons_self) hs
  simp only [List.foldl_cons]
  generalize stp (s,b) i = r at h1
  obtain ⟨s',b'⟩ := r
  have h2 := gT stp C μ S L (fun s b j hj => h s b j (List.mem_cons_of_mem _ hj)) s' b' h1.1
  refine ⟨h2.1,?_⟩
  rcases h1.2 with ⟨e1,c1⟩ | ⟨e1,c1⟩
  ·cases e1
   rcases h2.2 with ⟨e2,c2⟩ | ⟨e2,c2⟩
   ·exact .inl ⟨e2,fun j hj => by rcases List.mem_cons.1 hj with rfl|hj;exact c1;exact c2 j hj⟩
   ·exact .inr ⟨e2,c2⟩
  ·rcases h2.2 with ⟨e2, c2⟩ | ⟨e2, c2⟩
   ·rw [e2]; exact .inr ⟨e1,c1⟩
   ·exact .inr ⟨e2,by dsimp only at c1;omega⟩
theorem c9 {σ ι:Type}[Inhabited ι] (f:σ → ι → σ) (L:List ι) (s:σ) (k:Nat) (h:k < L.length):(L.take (k + 1)).foldl f s = f ((L.take k).foldl f s) L[k]!:=by
 rw [b0 _ _ h,List.foldl_append]; rfl
def dS (l : List Nat) : Nat := l.foldr (· + ·) 0
theorem lQ (g:Nat → Nat):∀ (l:List Nat) (k:Nat) (x:Nat),k < l.length → dS ((l.set k x).map g) + g l[k]! = dS (l.map g) + g x
 | a :: l,0,x,_ => by simp [dS]; omega
 | a :: l, k + 1, x, h => by
  have := lQ g l k x (by simpa using h)
  have e : (a :: l)[k + 1]! = l[k]! := by rw [a8 _ _ h,a8 _ _ (by simpa using h)]; rfl
  rw [e]
  simp only [List.set_cons_succ,List.map_cons,dS,List.foldr_cons] at this ⊢
  omega
abbrev aG (ts : List Int) (bd : List Stmt) (pts : List Pnt) : AV := .iptr [sl cI ts,sl aZ bd,sl cC pts]
def yS (t : Int) : Bool := decide (t = 2) || decide (t = 4)
def wS (ts : List Int) (x : Pnt) (us : List Int) : Nat := eW (fun v => decide (a9 ts x v ∈ us)) ts.length
def hG (x : Pnt) : Nat := if 0 ≤ aN x then 2 ^ (aN x).toNat else 0
def gF (ts : List Int) (x : Pnt) (A : Nat) : Nat := gX A (wS ts x [2]) ||| hG x
theorem rF {x:Pnt}(h:aN x < 62):Sm (hG x):=by
 unfold hG;split
 ·exact Sm.pow (by omega)
 ·infer_instance
theorem oP (ts:List Int) (x:Pnt) (v:Int):0 ≤ a9 ts x v ∧ a9 ts x v ≤ 3:=by
 unfold a9;grind
theorem WG.set {ts:List Int}{pts:List Pnt}(h:WG ts pts) (i:Nat) (hi:i < pts.length):aN pts[i]! < ts.length ∧ (0 ≤ aN pts[i]! ∨ aN pts[i]! = -1):=by
 have := h.x i hi
 have := h.tl
 unfold aN;split <;> omega
theorem qH (f:Nat → Bool) (k:Nat) (h:f k = true):eW f k ||| 2 ^ k = eW f (k + 1) := by rw [eW,if_pos h]
theorem k9 (f:Nat → Bool) (k:Nat) (h:f k = false):eW f k = eW f (k + 1) := by rw [eW,if_neg (by simp [h]),Nat.or_zero]
theorem j9 {i:Nat}{hs:List (Nat × Option (List AV))}{id:Nat}{cs:List AV}(h:aO ((i,none) :: hs) id = some cs):aO hs id = some cs ∧ id ≠ i:=by
 rw [cF] at h
 split at h
 ·cases h
 ·rename_i e;exact ⟨h,e⟩
theorem Le.frzD {ts:List (Nat × AV)}{hs:List (Nat × Option (List AV))}{n:Nat}{z0:Lo}{d i m e:Nat}{cs:List AV}(hd:lk ts d = some (.own i 0 m e)) (hi:aO hs i = some cs) :
  Le ⟨ts,hs,n,z0⟩ ⟨(d,.imm m cs) :: ts,(i,none) :: hs,n,z0⟩ := by
 rintro C a w ⟨h0,ι,g,gh⟩
 obtain ⟨gh',car⟩ := gh.less (F' := Fn n z0) (H' := aO ((i,none) :: hs)) (fun id c h => (j9 h).1) (fun _ h => h)
 refine ⟨h0,ι,⟨g.df,g.sz,fun t av ht => ?_⟩,gh'⟩
 rw [show lk (⟨(d,.imm m cs) :: ts,(i,none) :: hs,n,z0⟩ : AS).ts t = lk ((d,.imm m cs) :: ts) t from rfl,kI] at ht
 split at ht
 ·rename_i et
  subst et
  cases ht
  obtain ⟨y,hy,hr⟩ := g.tm t _ hd
  refine ⟨y,hy,?_⟩
  simp only [Rd] at hr ⊢
  rcases hr with ⟨_,h2,a',h3⟩ | ⟨b,β,c,h1,h2,h3,h4⟩
  ·subst h2;exact ⟨a',0,h3,.inl rfl⟩
  ·refine ⟨_, c, h2, ?_⟩
   rcases Nat.eq_zero_or_pos m with h5|h5
   ·exact .inl h5
   ·refine .inr ⟨b, β + 0, h3, rfl, ?_⟩
    rcases gh.obj i cs hi with ⟨q1,q2⟩ | ⟨b',β',arr,e',q1,q2,q3,q4,q5,q6⟩
    ·rw [h1] at q1;cases q1
    ·rw [h1] at q1; cases q1
     refine .inr ⟨?_,RdC.carryB car _ _ _ (fun o x hx => hx) q4⟩
     rintro (h | ⟨id',cs',β',r1,r2⟩)
     ·exact q5 h
     ·exact (j9 r1).2 (gh.sep _ _ _ _ _ _ _ (j9 r1).1 hi r2 h1)
 ·obtain ⟨y, hy, hr⟩ := g.tm t av ht
  exact ⟨y,hy,Rd.carry car _ _ hr⟩
theorem Le.frzP {ts:List (Nat × AV)}{hs:List (Nat × Option (List AV))}{n:Nat}{z0:Lo}{d i:Nat}{cs:List AV}(hd:lk ts d = some (.optr i 0)) (hi:aO hs i = some cs) :
  Le ⟨ts,hs,n,z0⟩ ⟨(d,.iptr cs) :: ts,(i,none) :: hs,n,z0⟩ := by
 rintro C a w ⟨h0,ι,g,gh⟩
 obtain ⟨gh',car⟩ := gh.less (F' := Fn n z0) (H' := aO ((i,none) :: hs)) (fun id c h => (j9 h).1) (fun _ h => h)
 refine ⟨h0,ι,⟨g.df,g.sz,fun t av ht => ?_⟩,gh'⟩
 rw [show lk (⟨(d,.iptr cs) :: ts,(i,none) :: hs,n,z0⟩ : AS).ts t = lk ((d,.iptr cs) :: ts) t from rfl,kI] at ht
 split at ht
 ·rename_i et
  subst et
  cases ht
  obtain ⟨y,hy,hr⟩ := g.tm t _ hd
  refine ⟨y,hy,?_⟩
  simp only [Rd] at hr ⊢
  obtain ⟨b,β,h1,h2⟩ := hr
  refine ⟨b,β + 0,h2,?_⟩
  rcases gh.obj i cs hi with ⟨q1,q2⟩ | ⟨b',β',arr,e',q1,q2,q3,q4,q5,q6⟩
  ·rw [h1] at q1;cases q1
  ·rw [h1] at q1; cases q1
   refine .inr ⟨?_,RdC.carryB car _ _ _ (fun o x hx => hx) q4⟩
   rintro (h | ⟨id',cs',β',r1,r2⟩)
   ·exact q5 h
   ·exact (j9 r1).2 (gh.sep _ _ _ _ _ _ _ (j9 r1).1 hi r2 h1)
 ·obtain ⟨y, hy, hr⟩ := g.tm t av ht
  exact ⟨y,hy,Rd.carry car _ _ hr⟩
theorem Le.nilOwn {ts:List (Nat × AV)}{hs:List (Nat × Option (List AV))}{n:Nat}{z0:Lo}{d:Nat}(e:Nat) (hd:lk ts d = some (.v (.slice none 0 0))) (hn:n < aQ) :
  Le ⟨ts,hs,n,z0⟩ ⟨(d,.own n 0 0 e) :: ts,(n,some []) :: hs,n + 1,z0⟩ := by
 rintro C a w ⟨h0,ι,g,gh⟩
 have hf : ι n = none := gh.fresh n ⟨Nat.le_refl _,.inl hn⟩
 let ι' : Pl := dU ι n (some none)
 have hne : ∀ id p, ι id = some p → ι' id = some p := by
  intro id p h
  have : id ≠ n := by rintro rfl;rw [hf] at h;cases h
  simp only [ι',bF _ _ this,h]
 have hback : ∀ id b β, ι' id = some (some (b, β)) → id ≠ n ∧ ι id = some (some (b, β)) := by
  intro id b β h
  by_cases q : id = n
  ·subst q;simp only [ι',upd_same] at h;cases h
  ·simp only [ι',bF _ _ q] at h;exact ⟨q,h⟩
 have hH : ∀ id cs, id ≠ n → aO ((n, some []) :: hs) id = some cs → aO hs id = some cs := by
  intro id cs q h;rw [cF,if_neg q] at h;exact h
 have car : Carry w (aK C.X ι (aO hs)) ι w (aK C.X ι' (aO ((n, some []) :: hs))) ι' := by
  refine ⟨fun b o x h1 h2 => ⟨?_,h2⟩,hne,fun _ => Nat.le_refl _⟩
  rintro (h | ⟨id,cs,β,q1,q2⟩)
  ·exact h1 (.inl h)
  ·obtain ⟨r1, r2⟩ := hback _ _ _ q2
   exact h1 (.inr ⟨id,cs,β,hH _ _ r1 q1,r2⟩)
 refine ⟨h0,ι',⟨g.df,g.sz,fun t av ht => ?_⟩,⟨fun id cs h => ?_,fun id id' cs cs' b β β' q1 q2 q3 q4 => ?_,gh.fr,fun id p h => hne _ _ (gh.ex _ _ h),fun id h => ?_⟩⟩
 ·rw [show lk (⟨(d, .own n 0 0 e) :: ts, (n, some []) :: hs, n + 1, z0⟩ : AS).ts t = lk ((d, .own n 0 0 e) :: ts) t from rfl, kI] at ht
  split at ht
  ·rename_i et
   subst et
   cases ht
   obtain ⟨y,hy,hr⟩ := g.tm t _ hd
   refine ⟨y,hy,?_⟩
   simp only [Rd] at hr ⊢
   exact .inl ⟨⟨none,by simp only [ι',upd_same]⟩,trivial,none,hr⟩
  ·obtain ⟨y, hy, hr⟩ := g.tm t av ht
   exact ⟨y,hy,Rd.carry car _ _ hr⟩
 ·by_cases q : id = n
  ·subst q
   simp only [cF,if_true,Option.some.injEq] at h
   exact .inl ⟨by simp only [ι',upd_same],h.symm⟩
  ·rcases gh.obj id cs (hH _ _ q h) with ⟨r1, r2⟩ | ⟨b, β, arr, e', r1, r2, r3, r4, r5, r6⟩
   ·exact .inl ⟨hne _ _ r1,r2⟩
   ·exact .inr ⟨b,β,arr,e',hne _ _ r1,r2,r3,RdC.carryB car _ _ _ (fun o x hx => hx) r4,r5,r6⟩
 ·obtain ⟨r1, r2⟩ := hback _ _ _ q3
  obtain ⟨r3,r4⟩ := hback _ _ _ q4
  exact gh.sep _ _ _ _ _ _ _ (hH _ _ r1 q1) (hH _ _ r3 q2) r2 r4
 ·have h1 : n + 1 ≤ id := h.1
  have h2 : id < aQ ∨ z0.fb ≤ id := h.2
  have q : id ≠ n := by omega
  simp only [ι',bF _ _ q]
  exact gh.fresh id ⟨by show n ≤ id;omega,h2⟩
section
theorem cY {l:List Oper}{s s':AS}(h:RW P N all Q .txt l s') (k:Le s s'):RW P N all Q .txt l s := fun C a w hN g => h C a w hN (k C a w g)
theorem Le.trans {s s' s'':AS}(h:Le s s') (k:Le s' s''):Le s s'' := fun C a w g => k C a w (h C a w g)
theorem Le.frzTop {ts:List (Nat × AV)}{hs:List (Nat × Option (List AV))}{n:Nat}{z0:Lo}{d i m e:Nat}{cs:List AV} :
  Le ⟨(d,.own i 0 m e) :: ts,(i,some cs) :: hs,n,z0⟩ ⟨(d,.imm m cs) :: ts,(i,none) :: hs,n,z0⟩ := by
 refine (Le.frzD (d := d) (i := i) (m := m) (e := e) (cs := cs) (by simp [kI]) (by simp [cF])).trans ?_
 refine Le.of (fun t av h => ?_) (fun j c h => ?_) (Nat.le_refl _) rfl
 ·show lk ((d, .imm m cs) :: (d, .own i 0 m e) :: ts) t = _
  have h' : lk ((d,.imm m cs) :: ts) t = some av := h
  simp only [kI] at h' ⊢
  split
  ·rename_i q;rw [if_pos q] at h'; exact h'
  ·rename_i q;rw [if_neg q] at h'; exact h'
 ·show aO ((i, none) :: (i, some cs) :: hs) j = _
  have h' : aO ((i,none) :: hs) j = some c := h
  simp only [cF] at h' ⊢
  split
  ·rename_i q;rw [if_pos q] at h'; exact h'
  ·rename_i q;rw [if_neg q] at h'; exact h'
theorem aL {t el len e:Nat}{parts:Array (Nat × Operand)}{zs:List Value}{l:List (Nat × AV)}{cs:List AV}[ht:SlT P t el] [he:SzT P el e] [hz:ZrT P el zs] (hze:zs.length = e) (hsm:Nat.ble (len * e) 16777216 = true)
  (hl : evs (lk ts) parts.toList = some l) (hfl : iU (fun i => some (i * e,e)) ((List.replicate len (zs.map .v)).flatten) l = some cs) (hM : Nat.blt n aQ = true) (hN : Nat.blt d N = true) (kk : RW P N all Q .txt rest ⟨(d,.imm len cs) :: ts,(n,none) :: hs,n + 1,z0⟩) :
  RW P N all Q .txt (⟨some d,.buildSlice t len parts,ty,pos,af,none⟩ :: rest) ⟨ts,hs,n,z0⟩ :=
 m7 hze hsm hl hfl hM hN (md' := .txt) (cY kk Le.frzTop)
end
theorem Le.mv {ts:List (Nat × AV)}{hs:List (Nat × Option (List AV))}{n:Nat}{z0:Lo}{d i o m e:Nat}{cs:List AV}(hd:lk ts d = some (.own i o m e)) (hi:aO hs i = some cs) (hn:n < aQ) :
  Le ⟨ts,hs,n,z0⟩ ⟨(d,.own n o m e) :: ts,(n,some cs) :: (i,none) :: hs,n + 1,z0⟩ := by
 rintro C a w ⟨h0,ι,g,gh⟩
 have hf : ι n = none := gh.fresh n ⟨Nat.le_refl _,.inl hn⟩
 have hin : ∃ p, ι i = some p := by
  rcases gh.obj i cs hi with ⟨r1,_⟩ | ⟨b,β,_,_,r1,_⟩
  ·exact ⟨_,r1⟩
  ·exact ⟨_,r1⟩
 obtain ⟨pi,hpi⟩ := hin
 have hni : n ≠ i := by rintro rfl;rw [hf] at hpi;cases hpi
 let ι' : Pl := dU ι n (ι i)
 have hnn : ι' n = ι i := by simp only [ι',upd_same]
 have hne' : ∀ id,id ≠ n → ι' id = ι id := fun id h => by simp only [ι',bF _ _ h]
 have hne : ∀ id p, ι id = some p → ι' id = some p := by
  intro id p h
  have : id ≠ n := by rintro rfl;rw [hf] at h;cases h
  rw [hne' _ this,h]
 -- the objects of the new state, under their old ids
 let σ : Nat → Nat := fun id => if id = n then i else id
 have hσ : ∀ id c, aO ((n, some cs) :: (i, none) :: hs) id = some c → aO hs (σ id) = some c ∧ ι' id = ι (σ id) ∧ (id = n ∨ id ≠ i) := by
  intro id c h
  simp only [cF] at h
  by_cases q : id = n
  ·subst q
   rw [if_pos rfl] at h;cases h
   exact ⟨by simp only [σ,if_true]; exact hi,by simp only [σ,if_true]; exact hnn,.inl rfl⟩
  ·rw [if_neg q] at h
   by_cases q2 : id = i
   ·rw [if_pos q2] at h;cases h
   ·rw [if_neg q2] at h
    exact ⟨by simp only [σ,if_neg q]; exact h,by simp only [σ,if_neg q]; exact hne' _ q,.inr q2⟩
 have car : Carry w (aK C.X ι (aO hs)) ι w (aK C.X ι' (aO ((n, some cs) :: (i, none) :: hs))) ι' := by
  refine ⟨fun b o x h1 h2 => ⟨?_,h2⟩,hne,fun _ => Nat.le_refl _⟩
  rintro (h | ⟨id,c,β,q1,q2⟩)
  ·exact h1 (.inl h)
  ·obtain ⟨r1, r2, _⟩ := hσ id c q1
   exact h1 (.inr ⟨σ id,c,β,r1,by rw [← r2]; exact q2⟩)
 refine ⟨h0,ι',⟨g.df,g.sz,fun t av ht => ?_⟩,⟨fun id c h => ?_,fun id id' c c' b β β' q1 q2 q3 q4 => ?_,gh.fr,fun id p h => hne _ _ (gh.ex _ _ h),fun id h => ?_⟩⟩
 ·have ht' : lk ((d, .own n o m e) :: ts) t = some av := ht
  rw [kI] at ht'
  split at ht'
  ·rename_i et
   subst et
   cases ht'
   obtain ⟨y,hy,hr⟩ := g.tm t _ hd
   refine ⟨y,hy,?_⟩
   have hr' := Rd.carry car _ _ hr
   simp only [Rd,hnn] at hr' ⊢
   rw [hne' i (fun h => hni h.symm)] at hr'
   exact hr'
  ·obtain ⟨y, hy, hr⟩ := g.tm t av ht'
   exact ⟨y,hy,Rd.carry car _ _ hr⟩
 ·obtain ⟨r1, r2, _⟩ := hσ id c h
  rcases gh.obj _ c r1 with ⟨s1,s2⟩ | ⟨b,β,arr,e',s1,s2,s3,s4,s5,s6⟩
  ·exact .inl ⟨by rw [r2]; exact s1,s2⟩
  ·exact .inr ⟨b,β,arr,e',by rw [r2]; exact s1,s2,s3,RdC.carryB car _ _ _ (fun o x hx => hx) s4,s5,s6⟩
 ·obtain ⟨r1, r2, r3⟩ := hσ id c q1
  obtain ⟨t1,t2,t3⟩ := hσ id' c' q2
  have := gh.sep _ _ _ _ _ _ _ r1 t1 (by rw [← r2]; exact q3) (by rw [← t2]; exact q4)
  simp only [σ] at this
  split at this <;> split at this
  ·omega
  ·rename_i u1 u2; rcases t3 with t3 | t3
   ·exact absurd t3 u2
   ·exact absurd this.symm t3
  ·rename_i u1 u2; rcases r3 with r3 | r3
   ·exact absurd r3 u1
   ·exact absurd this r3
  ·exact this
 ·have h1 : n + 1 ≤ id := h.1
  have h2 : id < aQ ∨ z0.fb ≤ id := h.2
  rw [hne' id (by omega)]
  exact gh.fresh id ⟨by show n ≤ id;omega,h2⟩
theorem Le.slot {ts:List (Nat × AV)}{hs:List (Nat × Option (List AV))}{n:Nat}{z0:Lo}{d:Nat}{v v':AV}(hd:lk ts d = some v) (h:∀ (w:World) (bad:Nat → Prop) (ι:Pl) (y:Value),Rd w bad ι v y → Rd w bad ι v' y) :
  Le ⟨ts,hs,n,z0⟩ ⟨(d,v') :: ts,hs,n,z0⟩ := by
 rintro C a w ⟨h0,ι,g,gh⟩
 refine ⟨h0,ι,⟨g.df,g.sz,fun t av ht => ?_⟩,gh⟩
 have ht' : lk ((d,v') :: ts) t = some av := ht
 rw [kI] at ht'
 split at ht'
 ·rename_i et
  subst et
  cases ht'
  obtain ⟨y,hy,hr⟩ := g.tm t _ hd
  exact ⟨y,hy,h _ _ _ _ hr⟩
 ·exact g.tm t av ht'
theorem Le.nilImm {ts:List (Nat × AV)}{hs:List (Nat × Option (List AV))}{n:Nat}{z0:Lo}{d:Nat}(hd:lk ts d = some (.v (.slice none 0 0))):Le ⟨ts,hs,n,z0⟩ ⟨(d,.imm 0 []) :: ts,hs,n,z0⟩ :=
 Le.slot hd fun w bad ι y h => lE (av := .v (.slice none 0 0)) h
theorem D0 {α:Type}{f:α → List AV}{hs:List (Nat × Option (List AV))}{i:Nat}(h:aO hs i = some []):aO hs i = some (flat f []) := h
abbrev nJ (a s : Nat) : Nat := a ||| s
abbrev K3 (a s : Nat) : Nat := a &&& s
def kK (op : Nat → Nat → Nat) (s0 : Nat) (s : List Nat × Bool) (k : Nat) : List Nat × Bool :=
 if op s.1[k]! s0 ≠ s.1[k]! then (s.1.set k (op s.1[k]! s0),true) else s
def uE (pts : List Pnt) (i : Nat) : List Nat := pts[i]!.next.map (·.toNat)
def x7 (op : Nat → Nat → Nat) (F : Nat → Nat → Nat) (pts : List Pnt) (s : List Nat × Bool) (i : Nat) : List Nat × Bool := (uE pts i).foldl (kK op (F i s.1[i]!)) s
def yP (op : Nat → Nat → Nat) (F : Nat → Nat → Nat) (pts : List Pnt) (s : List Nat × Bool) : List Nat × Bool := (List.range pts.length).foldl (x7 op F pts) s
theorem c8 {α:Type}[Inhabited α] (l:List α) (k i:Nat) (x:α) (h:k < l.length):(l.set k x)[i]! = if i = k then x else l[i]!:=by
 by_cases e : i = k
 ·subst e;rw [if_pos rfl,a8 _ _ (by simpa using h),List.getElem_set_self]
 ·rw [if_neg e]
  simp only [List.getElem!_eq_getElem?_getD,List.getElem?_set_ne (Ne.symm e)]
theorem oX {ts:List Int}{pts:List Pnt}(w:WG ts pts){i k:Nat}(hi:i < pts.length):k ∈ uE pts i ↔ dF pts i k:=by
 unfold uE dF
 rw [List.mem_map]
 constructor
 ·rintro ⟨z, hz, rfl⟩
  have := w.nx i hi z hz
  exact ⟨hi,by rw [Int.toNat_of_nonneg this.1]; exact hz⟩
 ·rintro ⟨_,h⟩; exact ⟨_,h,rfl⟩
theorem dD {ts:List Int}{pts:List Pnt}(w:WG ts pts){i k:Nat}(h:dF pts i k):k < pts.length:=by
 have := w.nx i h.1 _ h.2;omega
structure Flow (op : Nat → Nat → Nat) (F : Nat → Nat → Nat) (pts : List Pnt) (g : Nat → Nat) (Pp : Nat → Nat → Prop) : Prop where
 snd : ∀ i k A B,dF pts i k → Pp i A → Pp k B → Pp k (op B (F i A))
 dec : ∀ i k A B,dF pts i k → Pp i A → Pp k B → op B (F i A) ≠ B → g (op B (F i A)) < g B
def SG (pts : List Pnt) (Pp : Nat → Nat → Prop) (l : List Nat) : Prop := l.length = pts.length ∧ ∀ i,i < pts.length → Pp i l[i]!
theorem GN {op:Nat → Nat → Nat}{F:Nat → Nat → Nat}{pts:List Pnt}{g:Nat → Nat}{Pp:Nat → Nat → Prop}(f:Flow op F pts g Pp){i k A:Nat}(hA:Pp i A) (e:dF pts i k) (hk:k < pts.length) (s:List Nat) (b:Bool) (h:SG pts Pp s) :
  SG pts Pp (kK op (F i A) (s,b) k).1 ∧ ((kK op (F i A) (s,b) k = (s,b) ∧ op s[k]! (F i A) = s[k]!) ∨ ((kK op (F i A) (s,b) k).2 = true ∧ dS ((kK op (F i A) (s,b) k).1.map g) < dS (s.map g))) := by
 unfold kK
 dsimp only
 have hks : k < s.length := by rw [h.1]; exact hk
 by_cases hc : op s[k]! (F i A) ≠ s[k]!
 ·rw [if_pos hc]
  refine ⟨⟨by simp [h.1],fun j hj => ?_⟩,.inr ⟨rfl,?_⟩⟩
  ·dsimp only
   rw [c8 _ _ _ _ hks]
   split
   ·rename_i q;subst q;exact f.snd _ _ _ _ e hA (h.2 j hj)
   ·exact h.2 j hj
  ·have := lQ g s k (op s[k]! (F i A)) hks
   have h2 := f.dec i k A s[k]! e hA (h.2 k hk) hc
   dsimp only;omega
 ·rw [if_neg hc]
  exact ⟨h,.inl ⟨rfl,by simpa using hc⟩⟩
theorem G9 {ts:List Int}{op:Nat → Nat → Nat}{F:Nat → Nat → Nat}{pts:List Pnt}{g:Nat → Nat}{Pp:Nat → Nat → Prop}(w:WG ts pts) (f:Flow op F pts g Pp) (s:List Nat) (b:Bool) (i:Nat) (hi:i < pts.length) (h:SG pts Pp s) :
  SG pts Pp (x7 op F pts (s,b) i).1 ∧ ((x7 op F pts (s,b) i = (s,b) ∧ ∀ k,dF pts i k → op s[k]! (F i s[i]!) = s[k]!) ∨ ((x7 op F pts (s,b) i).2 = true ∧ dS ((x7 op F pts (s,b) i).1.map g) < dS (s.map g))) := by
 have hA := h.2 i hi
 have := gT (kK op (F i s[i]!)) (fun k l => op l[k]! (F i s[i]!) = l[k]!) (fun l => dS (l.map g)) (SG pts Pp) (uE pts i)
  (fun s' b' k hk hs => by
   have e := (oX w hi).1 hk
   exact GN f hA e (dD w e) s' b' hs) s b h
 refine ⟨this.1,?_⟩
 rcases this.2 with ⟨e1,e2⟩|h2
 ·exact .inl ⟨e1,fun k e => e2 k ((oX w hi).2 e)⟩
 ·exact .inr h2
def kP (op : Nat → Nat → Nat) (F : Nat → Nat → Nat) (pts : List Pnt) (s : List Nat) : Prop := ∀ i k,dF pts i k → op s[k]! (F i s[i]!) = s[k]!
theorem tX {ts:List Int}{op:Nat → Nat → Nat}{F:Nat → Nat → Nat}{pts:List Pnt}{g:Nat → Nat}{Pp:Nat → Nat → Prop}(w:WG ts pts) (f:Flow op F pts g Pp) (s:List Nat) (b:Bool) (h:SG pts Pp s) :
  SG pts Pp (yP op F pts (s,b)).1 ∧ ((yP op F pts (s,b) = (s,b) ∧ kP op F pts s) ∨ ((yP op F pts (s,b)).2 = true ∧ dS ((yP op F pts (s,b)).1.map g) < dS (s.map g))) := by
 have := gT (x7 op F pts) (fun i l => ∀ k, dF pts i k → op l[k]! (F i l[i]!) = l[k]!) (fun l => dS (l.map g)) (SG pts Pp) (List.range pts.length)
  (fun s' b' i hi hs => G9 w f s' b' i (List.mem_range.1 hi) hs) s b h
 refine ⟨this.1,?_⟩
 rcases this.2 with ⟨e1,e2⟩|h2
 ·exact .inl ⟨e1,fun i k e => e2 i (List.mem_range.2 e.1) k e⟩
 ·exact .inr h2
theorem lP {a b:Nat}(h:a ||| b ≠ a):a < a ||| b:=by
 have := @Nat.left_le_or a b;omega
theorem wL {a b:Nat}(h:a &&& b ≠ a):a &&& b < a:=by
 have := @Nat.and_le_left a b;omega
theorem fM {a b:Nat}:a ||| b = a ↔ ∀ v,b.testBit v = true → a.testBit v = true:=by
 constructor
 ·intro h v hv;rw [← h,Nat.testBit_or,hv]; simp
 ·intro h
  apply Nat.eq_of_testBit_eq;intro v
  rw [Nat.testBit_or]
  cases hb : b.testBit v with
  | false => simp
  | true => rw [h v hb]; rfl
theorem tD {a b:Nat}:a &&& b = a ↔ ∀ v,a.testBit v = true → b.testBit v = true:=by
 constructor
 ·intro h v hv;rw [← h,Nat.testBit_and,Bool.and_eq_true] at hv;exact hv.2
 ·intro h
  apply Nat.eq_of_testBit_eq;intro v
  rw [Nat.testBit_and]
  cases ha : a.testBit v with
  | false => simp
  | true => rw [h v ha]; rfl
theorem b9 {a n:Nat}(h:a < 2 ^ n){v:Nat}(hv:a.testBit v = true):v < n:=by
 rcases Nat.lt_or_ge v n with h1|h1
 ·exact h1
 ·rw [Nat.testBit_lt_two_pow (Nat.lt_of_lt_of_le h (Nat.pow_le_pow_right (by decide) h1))] at hv;cases hv
theorem AD {ts:List Int}{pts:List Pnt}(w:WG ts pts){i:Nat}(hi:i < pts.length){v:Nat}(h:a9 ts pts[i]! v ≠ 0):v < ts.length:=by
 have h1 := w.x i hi
 have h2 := w.y i hi
 unfold a9 at h
 grind
theorem cH {ts:List Int}{x:Pnt}{us:List Int}{v:Nat}:(wS ts x us).testBit v = (decide (v < ts.length) && decide (a9 ts x v ∈ us)) := eQ _ _ _
theorem dT {x:Pnt}{v:Nat}(h:aN x < 62):(hG x).testBit v = decide (aN x = (v:Int)):=by
 unfold hG
 split
 ·rename_i h0
  by_cases e : v = (aN x).toNat
  ·subst e;rw [Nat.testBit_two_pow_self]; simp;omega
  ·rw [Nat.testBit_two_pow_of_ne (fun h => e h.symm)]; simp;omega
 ·simp;omega
theorem dK {ts:List Int}{x:Pnt}{A v:Nat}(h:aN x < 62):(gF ts x A).testBit v = ((A.testBit v && !(decide (v < ts.length) && decide (a9 ts x v = 2))) || decide (aN x = (v:Int))):=by
 unfold gF
 rw [Nat.testBit_or,b6,cH,dT h]
 simp
def lM (ts : List Int) (pts : List Pnt) (A : List Nat) : Prop := A.length = pts.length ∧ ∀ i,i < pts.length → ∀ v,A[i]!.testBit v = true ↔ Mb ts pts (i,v)
def m5 (ts : List Int) (pts : List Pnt) (A : List Nat) : Prop := A.length = pts.length ∧ ∀ i,i < pts.length → ∀ v,A[i]!.testBit v = true ↔ v < ts.length ∧ ¬ Na ts pts (i,v)
theorem jV {n:Nat}{A B:List Nat}(h1:A.length = n) (h2:B.length = n) (h:∀ i,i < n → ∀ v,A[i]!.testBit v = true ↔ B[i]!.testBit v = true):A = B:=by
 apply List.ext_getElem (by omega)
 intro i g1 g2
 have := h i (by omega)
 rw [a8 _ _ g1,a8 _ _ g2] at this
 apply Nat.eq_of_testBit_eq
 intro v
 rw [Bool.eq_iff_iff]; exact this v
def MI (ts : List Int) (pts : List Pnt) (i A : Nat) : Prop := A < 2 ^ ts.length ∧ ∀ v,A.testBit v = true → Mb ts pts (i,v)
def Mn (ts : List Int) (pts : List Pnt) (i A : Nat) : Prop := A < 2 ^ ts.length ∧ ∀ v,v < ts.length → A.testBit v = false → Na ts pts (i,v)
theorem mG {ts:List Int}{pts:List Pnt}(w:WG ts pts){i:Nat}(hi:i < pts.length){A:Nat}(hA:A < 2 ^ ts.length):gF ts pts[i]! A < 2 ^ ts.length:=by
 apply Nat.lt_pow_two_of_testBit
 intro v hv
 have hs := (w.set i hi).1
 have htl := w.tl
 rw [dK (by omega)]
 have : A.testBit v = false := by
  cases h : A.testBit v with
  | false => rfl
  | true => have := b9 hA h;omega
 rw [this,Bool.false_and,Bool.false_or,decide_eq_false_iff_not]; omega
theorem M9 {ts:List Int}{pts:List Pnt}(w:WG ts pts):Flow (fun a s => a ||| s) (fun i A => gF ts pts[i]! A) pts (fun a => 2 ^ ts.length - a) (MI ts pts):=by
 refine ⟨fun i k A B e hA hB => ⟨Nat.or_lt_two_pow hB.1 (mG w e.1 hA.1),fun v hv => ?_⟩,fun i k A B e hA hB hne => ?_⟩
 ·have hs := (w.set i e.1).1
  have htl := w.tl
  rw [Nat.testBit_or,Bool.or_eq_true] at hv
  rcases hv with hv|hv
  ·exact hB.2 v hv
  ·rw [dK (by omega)] at hv
   simp only [Bool.or_eq_true,Bool.and_eq_true,Bool.not_eq_true',Bool.and_eq_false_iff,decide_eq_true_eq,decide_eq_false_iff_not] at hv
   rcases hv with ⟨h1,h2⟩|h1
   ·refine .step (hA.2 v h1) ⟨rfl, e, ?_⟩
    have := b9 hA.1 h1
    rcases h2 with h2|h2
    ·omega
    ·exact h2
   ·exact .base ⟨i,e,h1⟩
 ·have h1 := lP hne
  have h2 := Nat.or_lt_two_pow hB.1 (mG w e.1 hA.1)
  omega
theorem MO {ts:List Int}{pts:List Pnt}(w:WG ts pts):Flow (fun a s => a &&& s) (fun i A => gF ts pts[i]! A) pts (fun a => a) (Mn ts pts):=by
 refine ⟨fun i k A B e hA hB => ⟨Nat.lt_of_le_of_lt Nat.and_le_left hB.1,fun v hv hf => ?_⟩,fun i k A B e hA hB hne => wL hne⟩
 have hs := (w.set i e.1).1
 have htl := w.tl
 rw [Nat.testBit_and,Bool.and_eq_false_iff] at hf
 rcases hf with hf|hf
 ·exact hB.2 v hv hf
 ·rw [dK (by omega)] at hf
  simp only [Bool.or_eq_false_iff,Bool.and_eq_false_iff,Bool.not_eq_false',Bool.and_eq_true,decide_eq_true_eq,decide_eq_false_iff_not] at hf
  obtain ⟨h1|h1,h2⟩ := hf
  ·exact .step (hA.2 v hv h1) ⟨rfl,e,h2⟩
  ·exact .base ⟨hv,.inr ⟨i,e,h1.2,h2⟩⟩
theorem FO {ts:List Int}{pts:List Pnt}(w:WG ts pts){A:List Nat}(h:SG pts (MI ts pts) A) (hc:kP (fun a s => a ||| s) (fun i A => gF ts pts[i]! A) pts A):lM ts pts A:=by
 refine ⟨h.1,fun i hi v => ⟨fun hv => (h.2 i hi).2 v hv,fun hm => ?_⟩⟩
 have htl := w.tl
 have key : ∀ a : Nat × Nat, Mb ts pts a → A[a.1]!.testBit a.2 = true := by
  refine Clo.sub (T := fun a : Nat × Nat => A[a.1]!.testBit a.2 = true) ?_ ?_
  ·rintro ⟨k, v⟩ ⟨i, e, hs⟩
   have h1 := (w.set i e.1).1
   refine fM.1 (hc i k e) v ?_
   rw [dK (by omega)]; simp only [Bool.or_eq_true,decide_eq_true_eq]; exact .inr hs
  ·rintro ⟨i, v⟩ ⟨k, v'⟩ ht ⟨rfl, e, hu⟩
   have h1 := (w.set i e.1).1
   refine fM.1 (hc i k e) v' ?_
   dsimp only at ht hu
   rw [dK (by omega),ht]; grind
 exact key (i,v) hm
theorem FU {ts:List Int}{pts:List Pnt}(w:WG ts pts){A:List Nat}(h:SG pts (Mn ts pts) A) (h0:A[0]! = 0) (hc:kP (fun a s => a &&& s) (fun i A => gF ts pts[i]! A) pts A):m5 ts pts A:=by
 refine ⟨h.1,fun i hi v => ?_⟩
 have htl := w.tl
 have key : ∀ a : Nat × Nat, Na ts pts a → A[a.1]!.testBit a.2 = false := by
  refine Clo.sub (T := fun a : Nat × Nat => A[a.1]!.testBit a.2 = false) ?_ ?_
  ·rintro ⟨k, v⟩ ⟨hv, h1 | ⟨i, e, hu, hs⟩⟩
   ·dsimp only at h1 ⊢; rw [h1,h0]; simp
   ·have h1 := (w.set i e.1).1
    dsimp only at hu hs hv ⊢
    cases hq : A[k]!.testBit v with
    | false => rfl
    | true =>
     have := tD.1 (hc i k e) v hq
     rw [dK (by omega)] at this
     grind
  ·rintro ⟨i, v⟩ ⟨k, v'⟩ ht ⟨rfl, e, hs⟩
   have h1 := (w.set i e.1).1
   dsimp only at ht hs ⊢
   cases hq : A[k]!.testBit v' with
   | false => rfl
   | true =>
    have := tD.1 (hc i k e) v' hq
    rw [dK (by omega),ht] at this
    grind
 constructor
 ·intro hv
  refine ⟨b9 (h.2 i hi).1 hv,fun hn => ?_⟩
  have := key (i,v) hn
  dsimp only at this;rw [hv] at this;cases this
 ·rintro ⟨hv, hn⟩
  cases hq : A[i]!.testBit v with
  | true => rfl
  | false => exact absurd ((h.2 i hi).2 v hv hq) hn
theorem tQ {ts:List Int}{pts:List Pnt}{Pp:Nat → Nat → Prop}{l:List Nat}(h:SG pts Pp l) (hp:∀ i A,Pp i A → A < 2 ^ ts.length) (htl:ts.length ≤ 6) (z:Nat):Sm l[z]!:=by
 by_cases hz : z < pts.length
 ·exact ⟨Nat.lt_of_lt_of_le (hp _ _ (h.2 z hz)) (Nat.pow_le_pow_right (by decide) (by omega))⟩
 ·rw [getElem!_neg _ _ (by rw [h.1]; exact hz)]; exact ⟨by decide⟩
theorem yR {pts:List Pnt}{i j:Nat}(h:j < pts[i]!.next.length):(uE pts i)[j]! = (pts[i]!.next[j]!).toNat:=by
 unfold uE
 rw [a8 _ _ (by simpa using h),a8 _ _ h,List.getElem_map]
theorem dP {σ:Type}(f:σ → Nat → σ) (s:σ) (k:Nat):(List.range (k + 1)).foldl f s = f ((List.range k).foldl f s) k:=by
 rw [List.range_succ,List.foldl_append]; rfl
theorem iK {op:Nat → Nat → Nat}{s0:Nat}{pts:List Pnt}{i j:Nat}(h:j < pts[i]!.next.length) (s:List Nat × Bool) :
  ((uE pts i).take (j + 1)).foldl (kK op s0) s = kK op s0 (((uE pts i).take j).foldl (kK op s0) s) (pts[i]!.next[j]!).toNat := by
 have hl : j < (uE pts i).length := by unfold uE;simpa using h
 rw [c9 _ _ _ _ hl,yR h]
theorem kX (pts:List Pnt) (i:Nat):(uE pts i).length = pts[i]!.next.length := by unfold uE;simp
theorem xC {op:Nat → Nat → Nat}{s0:Nat}{s:List Nat}{b:Bool}{k:Nat}(h:op s[k]! s0 ≠ s[k]!):kK op s0 (s,b) k = (s.set k (op s[k]! s0),true) := by unfold kK;rw [if_pos h]
theorem yL {op:Nat → Nat → Nat}{s0:Nat}{s:List Nat}{b:Bool}{k:Nat}(h:op s[k]! s0 = s[k]!):kK op s0 (s,b) k = (s,b) := by unfold kK;rw [if_neg (fun hc => hc h)]
theorem wO {op:Nat → Nat → Nat}{F:Nat → Nat → Nat}{pts:List Pnt}{g:Nat → Nat}{Pp:Nat → Nat → Prop}(f:Flow op F pts g Pp){ts:List Int}(w:WG ts pts){i k A:Nat}(hA:Pp i A) (e:dF pts i k){s:List Nat}(h:SG pts Pp s):SG pts Pp (s.set k (op s[k]! (F i A))):=by
 refine ⟨by simp [h.1],fun j hj => ?_⟩
 rw [c8 _ _ _ _ (by rw [h.1]; exact dD w e)]
 split
 ·rename_i q;subst q;exact f.snd _ _ _ _ e hA (h.2 j hj)
 ·exact h.2 j hj
theorem Br {pts:List Pnt}{Pp:Nat → Nat → Prop}(h:∀ i,i < pts.length → Pp i 0):SG pts Pp (List.replicate pts.length 0):=by
 refine ⟨by simp,fun i hi => ?_⟩
 rw [a8 _ _ (by simpa using hi),List.getElem_replicate]; exact h i hi
theorem DB {ts:List Int}{pts:List Pnt}{A B:List Nat}(h1:lM ts pts A) (h2:lM ts pts B):A = B := jV h1.1 h2.1 fun i hi v => (h1.2 i hi v).trans (h2.2 i hi v).symm
theorem Dw {ts:List Int}{pts:List Pnt}{A B:List Nat}(h1:m5 ts pts A) (h2:m5 ts pts B):A = B := jV h1.1 h2.1 fun i hi v => (h1.2 i hi v).trans (h2.2 i hi v).symm
theorem l3 {l:List Nat}{k x:Nat}(h:l[k]! = x) (hk:k < l.length):l.set k x = l:=by
 subst h;rw [a8 _ _ hk]; exact List.set_getElem_self hk
theorem JC {n k a:Nat}(h:k < n):(List.replicate k a ++ List.replicate (n - k) 0).set k a = List.replicate (k + 1) a ++ List.replicate (n - (k + 1)) 0:=by
 rw [show n - k = (n - (k + 1)) + 1 by omega,List.replicate_succ]
 have := rJ (List.replicate k a) 0 a (List.replicate (n - (k + 1)) 0)
 rw [List.length_replicate] at this
 rw [this,List.replicate_succ']; simp
theorem Gm {ts:List Int}{pts:List Pnt}(w:WG ts pts){u:List Nat}(hu:u = List.replicate pts.length (2 ^ ts.length - 1)):SG pts (Mn ts pts) (u.set 0 0) ∧ (u.set 0 0)[0]! = 0:=by
 have hp0 := w.p0
 have h0 : 0 < u.length := by rw [hu]; simpa using hp0
 have hp : 0 < 2 ^ ts.length := Nat.pow_pos (by decide)
 refine ⟨⟨by simp [hu],fun i hi => ?_⟩,by rw [c8 _ _ _ _ h0,if_pos rfl]⟩
 rw [c8 _ _ _ _ h0]
 split
 ·rename_i e;subst e;exact ⟨hp,fun v hv _ => .base ⟨hv,.inl rfl⟩⟩
 ·rw [hu, a8 _ _ (by simpa using hi), List.getElem_replicate]
  exact ⟨by omega,fun v hv hf => by rw [Nat.testBit_two_pow_sub_one] at hf;simp at hf;omega⟩
def J0 (pts : List Pnt) (B : List Nat) (i : Nat) : Nat := (uE pts i).foldl (fun a k => a ||| B[k]!) 0
def pC (ts : List Int) (pts : List Pnt) (B : List Nat) (i : Nat) : Nat := wS ts pts[i]! [1,2,3] ||| gX (J0 pts B i) (hG pts[i]!)
theorem lO (B:List Nat) (v:Nat):∀ (L:List Nat) (a:Nat),(L.foldl (fun a k => a ||| B[k]!) a).testBit v = true ↔ a.testBit v = true ∨ ∃ k ∈ L,B[k]!.testBit v = true
 | [],a => by simp
 | k :: L, a => by
  rw [List.foldl_cons,lO B v L,Nat.testBit_or,Bool.or_eq_true]
  simp only [List.mem_cons,exists_eq_or_imp]
  grind
theorem qG {ts:List Int}{pts:List Pnt}(w:WG ts pts){B:List Nat}{i v:Nat}(hi:i < pts.length):(J0 pts B i).testBit v = true ↔ ∃ k,dF pts i k ∧ B[k]!.testBit v = true:=by
 unfold J0
 rw [lO]
 simp only [Nat.zero_testBit,Bool.false_eq_true,false_or,oX w hi]
theorem jO {ts:List Int}{pts:List Pnt}(w:WG ts pts){B:List Nat}{i v:Nat}(hi:i < pts.length):(pC ts pts B i).testBit v = true ↔ (v < ts.length ∧ a9 ts pts[i]! v ≠ 0) ∨ (aN pts[i]! ≠ v ∧ ∃ k,dF pts i k ∧ B[k]!.testBit v = true):=by
 have hs := (w.set i hi).1
 have htl := w.tl
 have hb := oP ts pts[i]! v
 unfold pC
 rw [Nat.testBit_or,b6,cH,dT (by omega)]
 simp only [Bool.or_eq_true,Bool.and_eq_true,decide_eq_true_eq,Bool.not_eq_true',decide_eq_false_iff_not,qG w hi,List.mem_cons,List.not_mem_nil,or_false]
 have : (a9 ts pts[i]! (v : Int) = 1 ∨ a9 ts pts[i]! (v : Int) = 2 ∨ a9 ts pts[i]! (v : Int) = 3) ↔ a9 ts pts[i]! (v : Int) ≠ 0 := by omega
 rw [this]
 constructor
 ·rintro (h | ⟨h1, h2⟩)
  ·exact .inl h
  ·exact .inr ⟨h2,h1⟩
 ·rintro (h | ⟨h1, h2⟩)
  ·exact .inl h
  ·exact .inr ⟨h2,h1⟩
def NB (ts : List Int) (pts : List Pnt) (i A : Nat) : Prop := A < 2 ^ ts.length ∧ ∀ v,A.testBit v = true → Nd ts pts (i,v)
def tF (ts : List Int) (pts : List Pnt) (A : List Nat) : Prop := A.length = pts.length ∧ ∀ i,i < pts.length → ∀ v,A[i]!.testBit v = true ↔ Nd ts pts (i,v)
theorem EL {ts:List Int}{pts:List Pnt}{A B:List Nat}(h1:tF ts pts A) (h2:tF ts pts B):A = B := jV h1.1 h2.1 fun i hi v => (h1.2 i hi v).trans (h2.2 i hi v).symm
def kY (ts : List Int) (pts : List Pnt) (s : List Nat × Bool) (i : Nat) : List Nat × Bool := if pC ts pts s.1 i ≠ s.1[i]! then (s.1.set i (pC ts pts s.1 i),true) else s
def SN (ts : List Int) (pts : List Pnt) (l : List Nat) : Prop := SG pts (NB ts pts) l ∧ ∀ i,i < pts.length → ∀ v,l[i]!.testBit v = true → (pC ts pts l i).testBit v = true
theorem Ae {ts:List Int}{pts:List Pnt}(w:WG ts pts){l l':List Nat}{i:Nat}(hi:i < pts.length) (h:∀ k,k < pts.length → ∀ v,l[k]!.testBit v = true → l'[k]!.testBit v = true){v:Nat}(hv:(pC ts pts l i).testBit v = true):(pC ts pts l' i).testBit v = true:=by
 rw [jO w hi] at hv ⊢
 rcases hv with hv | ⟨h1,k,e,h2⟩
 ·exact .inl hv
 ·exact .inr ⟨h1,k,e,h k (dD w e) v h2⟩
theorem JI {ts:List Int}{pts:List Pnt}(w:WG ts pts){l:List Nat}{i:Nat}(hi:i < pts.length) (h:SG pts (NB ts pts) l):NB ts pts i (pC ts pts l i):=by
 have key : ∀ v, (pC ts pts l i).testBit v = true → v < ts.length ∧ Nd ts pts (i, v) := by
  intro v hv
  rw [jO w hi] at hv
  rcases hv with ⟨h1,h2⟩ | ⟨h1,k,e,h2⟩
  ·exact ⟨h1,.base ⟨hi,h1,h2⟩⟩
  ·have hk := h.2 k (dD w e)
   exact ⟨b9 hk.1 h2,.step (hk.2 v h2) ⟨rfl,e,h1⟩⟩
 refine ⟨?_,fun v hv => (key v hv).2⟩
 apply Nat.lt_pow_two_of_testBit
 intro v hv
 cases hq : (pC ts pts l i).testBit v with
 | false => rfl
 | true => have := (key v hq).1;omega
theorem vO {ts:List Int}{pts:List Pnt}(w:WG ts pts) (s:List Nat) (b:Bool) (i:Nat) (hi:i < pts.length) (h:SN ts pts s) :
  SN ts pts (kY ts pts (s,b) i).1 ∧ ((kY ts pts (s,b) i = (s,b) ∧ pC ts pts s i = s[i]!) ∨ ((kY ts pts (s,b) i).2 = true ∧ dS ((kY ts pts (s,b) i).1.map (fun a => 2 ^ ts.length - a)) < dS (s.map (fun a => 2 ^ ts.length - a)))) := by
 unfold kY
 dsimp only
 have his : i < s.length := by rw [h.1.1]; exact hi
 by_cases hc : pC ts pts s i ≠ s[i]!
 ·rw [if_pos hc]
  have hp := JI w hi h.1
  have hge : ∀ k, k < pts.length → ∀ v, s[k]!.testBit v = true → ((s.set i (pC ts pts s i))[k]!).testBit v = true := by
   intro k hk v hv
   rw [c8 _ _ _ _ his]
   split
   ·rename_i q;subst q;exact h.2 _ hk v hv
   ·exact hv
  refine ⟨⟨⟨by simp [h.1.1],fun j hj => ?_⟩,fun j hj v hv => ?_⟩,.inr ⟨rfl,?_⟩⟩
  ·rw [c8 _ _ _ _ his]
   split
   ·rename_i q;subst q;exact hp
   ·exact h.1.2 j hj
  ·rw [c8 _ _ _ _ his] at hv
   split at hv
   ·rename_i q;subst q;exact Ae w hj hge hv
   ·exact Ae w hj hge (h.2 j hj v hv)
  ·have h1 := lQ (fun a => 2 ^ ts.length - a) s i (pC ts pts s i) his
   have h2 : s[i]! ||| pC ts pts s i = pC ts pts s i := by rw [Nat.or_comm]; exact fM.2 (h.2 i hi)
   have h3 : s[i]! < pC ts pts s i := by
    have : s[i]! ≤ pC ts pts s i := by rw [← h2]; exact Nat.left_le_or
    omega
   have h4 := hp.1
   dsimp only at h1 ⊢; omega
 ·rw [if_neg hc]
  exact ⟨h,.inl ⟨rfl,by simpa using hc⟩⟩
def z7 (ts : List Int) (pts : List Pnt) (s : List Nat × Bool) : List Nat × Bool := (List.range pts.length).reverse.foldl (kY ts pts) s
theorem DC {ts:List Int}{pts:List Pnt}(w:WG ts pts) (s:List Nat) (b:Bool) (h:SN ts pts s) :
  SN ts pts (z7 ts pts (s,b)).1 ∧ ((z7 ts pts (s,b) = (s,b) ∧ ∀ i,i < pts.length → pC ts pts s i = s[i]!) ∨ ((z7 ts pts (s,b)).2 = true ∧ dS ((z7 ts pts (s,b)).1.map (fun a => 2 ^ ts.length - a)) < dS (s.map (fun a => 2 ^ ts.length - a)))) := by
 have := gT (kY ts pts) (fun i l => pC ts pts l i = l[i]!) (fun l => dS (l.map (fun a => 2 ^ ts.length - a))) (SN ts pts) (List.range pts.length).reverse
  (fun s' b' i hi hs => vO w s' b' i (List.mem_range.1 (List.mem_reverse.1 hi)) hs) s b h
 refine ⟨this.1,?_⟩
 rcases this.2 with ⟨e1,e2⟩|h2
 ·exact .inl ⟨e1,fun i hi => e2 i (List.mem_reverse.2 (List.mem_range.2 hi))⟩
 ·exact .inr h2
theorem Hv {ts:List Int}{pts:List Pnt}(w:WG ts pts){A:List Nat}(h:SN ts pts A) (hc:∀ i,i < pts.length → pC ts pts A i = A[i]!):tF ts pts A:=by
 refine ⟨h.1.1,fun i hi v => ⟨fun hv => (h.1.2 i hi).2 v hv,fun hm => ?_⟩⟩
 have key : ∀ a : Nat × Nat, Nd ts pts a → A[a.1]!.testBit a.2 = true := by
  refine Clo.sub (T := fun a : Nat × Nat => A[a.1]!.testBit a.2 = true) ?_ ?_
  ·rintro ⟨i, v⟩ ⟨h1, h2, h3⟩
   dsimp only at h1 h2 h3 ⊢
   rw [← hc i h1,jO w h1]; exact .inl ⟨h2,h3⟩
  ·rintro ⟨n, v⟩ ⟨i, v'⟩ ht ⟨rfl, e, hs⟩
   dsimp only at ht hs e ⊢
   rw [← hc i e.1,jO w e.1]; exact .inr ⟨hs,n,e,ht⟩
 exact key (i,v) hm
def n7 (ts : List Int) (pts : List Pnt) (A : List Nat) : Prop := A.length = pts.length ∧ ∀ i,i < pts.length → ∀ v,A[i]!.testBit v = true ↔ Lv ts pts i v
theorem vK {ts:List Int}{pts:List Pnt}{A B:List Nat}(h1:n7 ts pts A) (h2:n7 ts pts B):A = B := jV h1.1 h2.1 fun i hi v => (h1.2 i hi v).trans (h2.2 i hi v).symm
theorem z4 {ts:List Int}{pts:List Pnt}(w:WG ts pts){A:List Nat}(h:tF ts pts A):n7 ts pts ((List.range pts.length).map (J0 pts A)):=by
 refine ⟨by simp,fun i hi v => ?_⟩
 rw [a8 _ _ (by simpa using hi),List.getElem_map,List.getElem_range,qG w hi]
 constructor
 ·rintro ⟨k,e,hk⟩; exact ⟨k,e,(h.2 k (dD w e) v).1 hk⟩
 ·rintro ⟨k,e,hk⟩; exact ⟨k,e,(h.2 k (dD w e) v).2 hk⟩
theorem Ab {n k:Nat}(h:k < n):(List.range n).reverse[k]! = n - 1 - k:=by
 rw [a8 _ _ (by simpa using h),List.getElem_reverse]; simp
theorem Di {ts:List Int}{pts:List Pnt}{s:List Nat}{b:Bool}{i:Nat}(h:pC ts pts s i ≠ s[i]!):kY ts pts (s,b) i = (s.set i (pC ts pts s i),true) := by unfold kY;rw [if_pos h]
theorem Iu {ts:List Int}{pts:List Pnt}{s:List Nat}{b:Bool}{i:Nat}(h:pC ts pts s i = s[i]!):kY ts pts (s,b) i = (s,b) := by unfold kY;rw [if_neg (fun hc => hc h)]
theorem L7 {ts:List Int}{pts:List Pnt}:SN ts pts (List.replicate pts.length 0):=by
 refine ⟨Br fun i hi => ⟨Nat.pow_pos (by decide),fun v h => by simp at h⟩,fun i hi v h => ?_⟩
 rw [a8 _ _ (by simpa using hi),List.getElem_replicate] at h;simp at h
theorem qE {ts:List Int}{pts:List Pnt}(w:WG ts pts){a:Nat × Nat}(h:Nd ts pts a):a.2 < ts.length:=by
 induction h with
 | base h => exact h.2.1
 | step _ r ih => rw [r.1]; exact ih
instance (a b : List AV) [h : Pur a] [h2 : Pur b] : Pur (a ++ b):=⟨by rw [g9,h.pf,h2.pf]; rfl⟩
instance (fn : Go.Fn) (f c : List AV) [h : Pur f] [h2 : Pur c] : PurV (.clos fn f c):=⟨by simp only [AV.pur,h.pf,h2.pf,Bool.and_self]⟩
def cN (n : Nat) : List AV := [.v (.int .i64 (n : Int))]
def cW (n : Nat) : List AV := [.v (.int .u64 (n : Int))]
instance : FlT cN 1:=⟨fun _ => rfl⟩
instance : FlT cW 1:=⟨fun _ => rfl⟩
instance : FE cN (fun n => [.v (.int .i64 (n : Int))]):=⟨fun _ => rfl⟩
instance : FE cW (fun n => [.v (.int .u64 (n : Int))]):=⟨fun _ => rfl⟩
instance (n : Nat) : Pur (cN n):=⟨rfl⟩
instance (n : Nat) : Pur (cW n):=⟨rfl⟩
theorem KU {xs:List Nat}{k:Nat}{a:Nat}(hk:k < xs.length):gQ (flat cN xs) (0 + k * 1) [.v (.int .i64 (a:Int))] = flat cN (xs.set k a) := fD hk rfl
theorem CM {xs:List Nat}{k:Nat}{a:Nat}(hk:k < xs.length):gQ (flat cW xs) (0 + k * 1) [.v (.int .u64 (a:Int))] = flat cW (xs.set k a) := fD hk rfl
theorem Ii {xs:List Nat}{m:Nat}{a:Nat}(hm:m = xs.length):((flat cN xs).drop 0).take (m * 1) ++ [.v (.int .i64 (a:Int))] = flat cN (xs ++ [a]) := eV hm rfl
theorem sZ {α:Type}{f:α → List AV}{x:α}{l:List AV}{m:Nat}(h:l = f x):(List.replicate m l).flatten = flat f (List.replicate m x):=by
 subst h;simp [flat,List.flatMap_def]
theorem Kt {m:Nat}:(List.replicate m ([Value.int .i64 0].map AV.v)).flatten = flat cN (List.replicate m 0) := sZ rfl
theorem Ji {m:Nat}:(List.replicate m ([Value.int .u64 0].map AV.v)).flatten = flat cW (List.replicate m 0) := sZ rfl
theorem CR {m:Nat}:(List.replicate m ([Value.bool false].map AV.v)).flatten = flat cB (List.replicate m false) := sZ rfl
section
theorem m9 {t el e by' m:Nat}{x y:Operand}{zs:List Value}{cs:List AV}{k k':IntKind}[ht:SlT P t el] [he:SzT P el e] [hb:ByT P el by'] [hz:ZrT P el zs]
  (hx : ev (lk ts) x = some (.v (.int k (m : Int)))) (hy : ev (lk ts) y = some (.v (.int k' (m : Int)))) (hze : zs.length = e) (hsm : by' * m ≤ 281474976710656) (hmx : m ≤ 9223372036854775807)
  (hcs : (List.replicate m (zs.map .v)).flatten = cs) (hM : Nat.blt n aQ = true) (hN : Nat.blt d N = true) {md' : Md} [hmd : MdA md (rO x ++ rO y) [.inr n,.inl d] md'] (kk : RW P N all Q md' rest ⟨(d,.own n 0 m e) :: ts,(n,some cs) :: hs,n + 1,z0⟩) :
  RW P N all Q md (⟨some d,.makeSlice t x y,ty,pos,af,none⟩ :: rest) ⟨ts,hs,n,z0⟩ := by
 subst hcs
 exact yE hx hy hze hsm hmx hM hN (md' := md') (hmd := hmd) kk
end
theorem mI {H:Nat → Option (List AV)}:jL H [] = some [] := rfl
theorem kV {H:Nat → Option (List AV)}{c x:AV}{cs l:List AV}(h1:iT H c = some x) (h2:jL H cs = some l):jL H (c :: cs) = some (x :: l):=by
 simp only [jL,h1,h2]
theorem mS {H:Nat → Option (List AV)}{i m e:Nat}{cs:List AV}(h:H i = some cs) (hp:Pur cs):iT H (.own i 0 m e) = some (.imm m cs):=by
 simp only [iT,h,Option.bind_some,hp.pf,if_true,List.drop_zero]
theorem wM {H:Nat → Option (List AV)}{x:Value}:iT H (.v x) = some (.v x) := rfl
theorem Cf {H:Nat → Option (List AV)}{cs:List AV}(hp:Pur cs):iT H (.iptr cs) = some (.iptr cs) := by simp only [iT,hp.pf,if_true]
section
theorem oL {k:FuncId}{args:Array Operand}{tys:Array TypeId}{avs avs2:List AV}{r:AV}{md':Md}[hc:CaT P k] (ha:evL (lk ts) args.toList = some avs) (hl:jL (aO hs) avs = some avs2) (h:PC P k avs2 (fun x => x = r)) (hfr:r.free = true) (hN:Nat.blt d N = true)
  (hmd : MdA md (fR args.toList ++ rL avs) [.inl d] md') (kk : RW P N all Q md' rest ⟨(d,r) :: ts,hs,n,z0⟩) : RW P N all Q md (⟨some d,.call ⟨.value (.func k),args,tys⟩,ty,pos,af,none⟩ :: rest) ⟨ts,hs,n,z0⟩ := by
 exact JD ha hl h hfr hN (hmd := hmd) kk
end
theorem Ev {k:IntKind}[hk:K6 k] (a:Nat) [ha:Sm a]:iD .and k a 1 = some (.int k ((a &&& 1:Nat):Int)) := zG a 1
section
theorem JF {k:IntKind}{t t':TypeId}{x y:Operand}{a:Nat}(hx:ev (lk ts) x = some (.v (.int k (a:Int)))) (hy:ev (lk ts) y = some (.v (.int k 1))) (hk:K6 k) (ha:Sm a)
  (hN : Nat.blt d N = true) {md' : Md} [hmd : MdA md (rO x ++ rO y) [.inl d] md'] (kk : RW P N all Q md' rest ⟨(d,.v (.int k ((a &&& 1 : Nat) : Int))) :: ts,hs,n,z0⟩) : RW P N all Q md (⟨some d,.binOp .and t x y t',ty,pos,af,none⟩ :: rest) ⟨ts,hs,n,z0⟩ :=
 fG hx hy (.inl rfl) (Ev a) (dN hN) (by rw [hmd.pf]; exact kk)
end
theorem lG (A v:Nat):((A >>> v &&& 1:Nat):Int) = 1 ↔ A.testBit v = true:=by
 rw [Nat.testBit,Nat.and_comm]
 have : 1 &&& (A >>> v) = (A >>> v) % 2 := by rw [Nat.and_comm,Nat.and_one_is_mod]
 rw [this]
 have := Nat.mod_two_eq_zero_or_one (A >>> v)
 simp only [bne_iff_ne,ne_eq]
 omega
def aY (A : Nat) : List Int := ((List.range 62).filter (A.testBit ·)).map (fun v : Nat => (v : Int))
theorem pO {A k:Nat}(h:∀ v,k ≤ v → A.testBit v = false) (hk:k ≤ 64) (hA:Sm A):aY A = ((List.range k).filter (A.testBit ·)).map (fun v:Nat => (v:Int)):=by
 unfold aY
 congr 1
 have e : ∀ (a b : Nat), (∀ v, a ≤ v → v < a + b → A.testBit v = false) → (List.range (a + b)).filter (A.testBit ·) = (List.range a).filter (A.testBit ·) := by
  intro a b hb
  rw [List.range_add,List.filter_append]
  have : List.filter (A.testBit ·) (List.map (fun x => a + x) (List.range b)) = [] := by
   rw [List.filter_eq_nil_iff]
   intro x hx
   rw [List.mem_map] at hx
   obtain ⟨y,hy,rfl⟩ := hx
   rw [List.mem_range] at hy
   rw [hb _ (by omega) (by omega)]; simp
  rw [this,List.append_nil]
 rcases Nat.le_total k 62 with h1|h1
 ·have := e k (62 - k) (fun v h2 _ => h v h2)
  rwa [show k + (62 - k) = 62 by omega] at this
 ·have := e 62 (k - 62) (fun v h2 _ => Nat.testBit_lt_two_pow (Nat.lt_of_lt_of_le hA.pf (Nat.pow_le_pow_right (by decide) h2)))
  rw [show 62 + (k - 62) = k by omega] at this
  exact this.symm
theorem iE (p:Nat → Bool) (k:Nat):(List.range (k + 1)).filter p = (List.range k).filter p ++ (if p k = true then [k] else []):=by
 rw [List.range_succ,List.filter_append]
 congr 1
 by_cases h : p k = true <;> simp [h]
theorem cL {A:Nat}{z:Int}:z ∈ aY A ↔ ∃ v:Nat,v < 62 ∧ A.testBit v = true ∧ z = v:=by
 unfold aY
 simp only [List.mem_map,List.mem_filter,List.mem_range]
 constructor
 ·rintro ⟨v,⟨h1,h2⟩,rfl⟩; exact ⟨v,h1,h2,rfl⟩
 ·rintro ⟨v,h1,h2,rfl⟩; exact ⟨v,⟨h1,h2⟩,rfl⟩
theorem CC {A k:Nat}(hA:Sm A) (h:0 < ((A >>> k:Nat):Int)):k < 62:=by
 rcases Nat.lt_or_ge k 62 with h1|h1
 ·exact h1
 ·have : A >>> k = 0 := by rw [Nat.shiftRight_eq_div_pow]; exact Nat.div_eq_of_lt (Nat.lt_of_lt_of_le hA.pf (Nat.pow_le_pow_right (by decide) h1))
  rw [this] at h;simp at h
theorem Hn {A k:Nat}(h:((A >>> k:Nat):Int) ≤ 0) (v:Nat) (hv:k ≤ v):A.testBit v = false:=by
 have h0 : A >>> k = 0 := Nat.le_zero.1 (Int.ofNat_le.1 h)
 have : A.testBit v = (A >>> k).testBit (v - k) := by rw [Nat.testBit_shiftRight]; congr 1;omega
 rw [this,h0]; simp
theorem vV {A k:Nat}{u:List Int}(h:((A >>> k &&& 1:Nat):Int) = 1) (hu:u = ((List.range k).filter (A.testBit ·)).map (fun v:Nat => (v:Int))):u ++ [(k:Int)] = ((List.range (k + 1)).filter (A.testBit ·)).map (fun v:Nat => (v:Int)):=by
 rw [iE,if_pos ((lG A k).1 h),List.map_append,hu]; rfl
theorem uT {A k:Nat}{u:List Int}(h:¬ ((A >>> k &&& 1:Nat):Int) = 1) (hu:u = ((List.range k).filter (A.testBit ·)).map (fun v:Nat => (v:Int))):u = ((List.range (k + 1)).filter (A.testBit ·)).map (fun v:Nat => (v:Int)):=by
 rw [iE,if_neg (fun q => h ((lG A k).2 q)),List.append_nil,hu]
def qN (pts : List Pnt) (V : Nat) : Nat := eW (fun l => bU pts[l]! && V.testBit (pts[l]!.y.toNat)) pts.length
theorem Hl {ts:List Int}{pts:List Pnt}(w:WG ts pts) (V:Nat):Sm (qN pts V) := bO (by have := w.pl;omega)
theorem gU {pts:List Pnt}{V l:Nat}:(qN pts V).testBit l = (decide (l < pts.length) && (bU pts[l]! && V.testBit (pts[l]!.y.toNat))) := eQ _ _ _
def KB (pts : List Pnt) (i : Nat) : Nat := if bU pts[i]! = true then 2 ^ i else 0
def wH (ts : List Int) (pts : List Pnt) (i A : Nat) : Nat := gX A (qN pts (wS ts pts[i]! [2] ||| hG pts[i]!)) ||| KB pts i
theorem nD {ts:List Int}{pts:List Pnt}(w:WG ts pts){l:Nat}(hl:l < pts.length) (h:bU pts[l]! = true):0 ≤ pts[l]!.y ∧ pts[l]!.y < ts.length ∧ pts[l]!.y.toNat < ts.length ∧ ((pts[l]!.y.toNat:Nat):Int) = pts[l]!.y:=by
 have := w.y l hl
 unfold bU at h
 simp only [Bool.or_eq_true,decide_eq_true_eq] at h
 omega
theorem testBit_lnB {pts:List Pnt}{i l:Nat}:(KB pts i).testBit l = (bU pts[i]! && decide (l = i)):=by
 unfold KB
 split
 ·rename_i h
  by_cases e : l = i
  ·subst e;rw [Nat.testBit_two_pow_self,h]; simp
  ·rw [Nat.testBit_two_pow_of_ne (fun q => e q.symm),h]; simp [e]
 ·rename_i h;rw [Bool.not_eq_true] at h;rw [h]; simp
theorem lH {ts:List Int}{pts:List Pnt}(w:WG ts pts){i A l:Nat}(hi:i < pts.length) (hl:l < pts.length) (hln:bU pts[l]! = true):(wH ts pts i A).testBit l = true ↔ (A.testBit l = true ∧ a9 ts pts[i]! pts[l]!.y ≠ 2 ∧ aN pts[i]! ≠ pts[l]!.y) ∨ (bU pts[i]! = true ∧ l = i):=by
 have hy := nD w hl hln
 have hs := (w.set i hi).1
 have htl := w.tl
 unfold wH
 rw [Nat.testBit_or,b6,gU,testBit_lnB,Nat.testBit_or,cH,dT (by omega),hy.2.2.2,hln]
 simp only [Bool.or_eq_true,Bool.and_eq_true,Bool.not_eq_true',Bool.and_eq_false_iff,Bool.or_eq_false_iff,decide_eq_true_eq,decide_eq_false_iff_not,List.mem_cons,List.not_mem_nil,or_false,Bool.true_eq_false,false_or]
 have := hy.2.2.1
 grind
theorem Bo {ts:List Int}{pts:List Pnt}(w:WG ts pts){i A:Nat}(hi:i < pts.length) (hA:A < 2 ^ pts.length):wH ts pts i A < 2 ^ pts.length:=by
 unfold wH
 refine Nat.or_lt_two_pow (Nat.xor_lt_two_pow hA (Nat.lt_of_le_of_lt Nat.and_le_left hA)) ?_
 unfold KB;split
 ·exact Nat.pow_lt_pow_right (by decide) hi
 ·exact Nat.pow_pos (by decide)
def My (ts : List Int) (pts : List Pnt) (i A : Nat) : Prop := A < 2 ^ pts.length ∧ ∀ l,A.testBit l = true → J9 ts pts (i,l)
def m6 (ts : List Int) (pts : List Pnt) (A : List Nat) : Prop := A.length = pts.length ∧ ∀ i,i < pts.length → ∀ l,A[i]!.testBit l = true ↔ J9 ts pts (i,l)
theorem Dy {ts:List Int}{pts:List Pnt}{A B:List Nat}(h1:m6 ts pts A) (h2:m6 ts pts B):A = B := jV h1.1 h2.1 fun i hi v => (h1.2 i hi v).trans (h2.2 i hi v).symm
theorem lD {ts:List Int}{pts:List Pnt}{a:Nat × Nat}(h:J9 ts pts a):a.2 < pts.length ∧ bU pts[a.2]! = true:=by
 induction h with
 | base h => exact ⟨h.1.1,h.2⟩
 | step _ r ih => rw [r.1]; exact ih
theorem MD {ts:List Int}{pts:List Pnt}(w:WG ts pts):Flow nJ (wH ts pts) pts (fun a => 2 ^ pts.length - a) (My ts pts):=by
 refine ⟨fun i k A B e hA hB => ⟨Nat.or_lt_two_pow hB.1 (Bo w e.1 hA.1),fun l hl => ?_⟩,fun i k A B e hA hB hne => ?_⟩
 ·rw [Nat.testBit_or, Bool.or_eq_true] at hl
  rcases hl with hl|hl
  ·exact hB.2 l hl
  ·have hln : l < pts.length ∧ bU pts[l]! = true := by
    have h0 := hl
    unfold wH at h0
    rw [Nat.testBit_or,b6,Bool.or_eq_true,Bool.and_eq_true] at h0
    rcases h0 with h0|h0
    ·exact lD (hA.2 l h0.1)
    ·rw [testBit_lnB, Bool.and_eq_true, decide_eq_true_eq] at h0
     rw [h0.2]; exact ⟨e.1,h0.1⟩
   rw [lH w e.1 hln.1 hln.2] at hl
   rcases hl with ⟨h1,h2,h3⟩ | ⟨h1,rfl⟩
   ·exact .step (hA.2 l h1) ⟨rfl,e,h2,h3⟩
   ·exact .base ⟨e,h1⟩
 ·have h1 := lP hne
  have h2 := Nat.or_lt_two_pow hB.1 (Bo w e.1 hA.1)
  show 2 ^ pts.length - (B ||| wH ts pts i A) < 2 ^ pts.length - B
  omega
theorem Hb {ts:List Int}{pts:List Pnt}(w:WG ts pts){A:List Nat}(h:SG pts (My ts pts) A) (hc:kP nJ (wH ts pts) pts A):m6 ts pts A:=by
 refine ⟨h.1,fun i hi l => ⟨fun hl => (h.2 i hi).2 l hl,fun hm => ?_⟩⟩
 have key : ∀ a : Nat × Nat, J9 ts pts a → (A[a.1]!.testBit a.2 = true ∧ a.2 < pts.length ∧ bU pts[a.2]! = true) := by
  refine Clo.sub (T := fun a : Nat × Nat => A[a.1]!.testBit a.2 = true ∧ a.2 < pts.length ∧ bU pts[a.2]! = true) ?_ ?_
  ·rintro ⟨k, l⟩ ⟨e, hl⟩
   dsimp only at e hl ⊢
   refine ⟨fM.1 (hc l k e) l ?_,e.1,hl⟩
   rw [lH w e.1 e.1 hl]; exact .inr ⟨hl,rfl⟩
  ·rintro ⟨i, l⟩ ⟨k, l'⟩ ⟨ht, hl1, hl2⟩ ⟨rfl, e, hu, hs⟩
   dsimp only at ht hl1 hl2 e hu hs ⊢
   refine ⟨fM.1 (hc i k e) l' ?_,hl1,hl2⟩
   rw [lH w e.1 hl1 hl2]; exact .inl ⟨ht,hu,hs⟩
 exact (key (i,l) hm).1
theorem eE (xs:List Nat):(flat cW xs).length = xs.length := by rw [aI cW (e := 1)]; omega
theorem zA {xs:List Nat}{q:Nat}(h:q < xs.length):(flat cW xs).drop q = .v (.int .u64 ((xs[q]!:Nat):Int)) :: flat cW (xs.drop (q + 1)):=by
 have := eX cW (e := 1) xs q h
 rw [Nat.mul_one] at this;rw [this]; rfl
section
theorem Bj {t el z:Nat}{x i:Operand}{xs:List Nat}{k:IntKind}{m:Int}[ht:ArT P t z el] [he:SzT P el 1] [ha:AgT P el false] (hx:ev (lk ts) x = some (.agg (flat cW xs)))
  (hi : ev (lk ts) i = some (.v (.int k m))) (hl : xs.length = z) (hm : 0 ≤ m ∧ m < z) (hN : Nat.blt d N = true) {md' : Md} [hmd : MdA md (rO x ++ rO i) [.inl d] md'] (kk : RW P N all Q md' rest ⟨(d,.v (.int .u64 ((xs[m.toNat]! : Nat) : Int))) :: ts,hs,n,z0⟩) :
  RW P N all Q md (⟨some d,.index t x i,ty,pos,af,none⟩ :: rest) ⟨ts,hs,n,z0⟩ := by
 refine Eh (c := .v (.int .u64 ((xs[m.toNat]! : Nat) : Int))) hx hi ht.pf he.pf ha.pf hm ?_ (dN hN) (by rw [hmd.pf]; exact kk)
 have hlt : m.toNat < xs.length := by omega
 have := congrArg List.head? (zA hlt)
 rw [List.head?_drop] at this
 rw [Nat.mul_one]; exact this
theorem Ao {id z:Nat}{t:TypeId}{x:Operand}{xs:List Nat}[ha:AgT P t true] [hz:SzT P t z] (hx:ev (lk ts) x = some (.optr id 0)) (hH:aO hs id = some (flat cW xs)) (hl:xs.length = z) (h0:Nat.blt 0 z = true)
  (hN : Nat.blt d N = true) {md' : Md} [hmd : MdA md (rO x ++ rA (.optr id 0)) [.inl d] md'] (kk : RW P N all Q md' rest ⟨(d,.agg (flat cW xs)) :: ts,hs,n,z0⟩) : RW P N all Q md (⟨some d,.load t x,ty,pos,af,none⟩ :: rest) ⟨ts,hs,n,z0⟩ :=
 jX (cs := flat cW xs) hx ha.pf hz.pf (by simp only [deref,hH,Option.map_some,List.drop_zero]) (List.take_of_length_le (by rw [eE,hl]; exact Nat.le_refl _)) (by rw [eE,hl]) (by have := dN h0;omega) (dN hN) (by rw [hmd.pf]; exact kk)
theorem A2 {id z k:Nat}{t:TypeId}{x:Operand}{xs:List Nat}[ha:AgT P t true] [hz:SzT P t z] (hx:ev (lk ts) x = some (.optr id (0 + k * z))) (hH:aO hs id = some (flat cW xs)) (hl:k * z + z ≤ xs.length) (h0:Nat.blt 0 z = true)
  (hN : Nat.blt d N = true) {md' : Md} [hmd : MdA md (rO x ++ rA (.optr id (0 + k * z))) [.inl d] md'] (kk : RW P N all Q md' rest ⟨(d,.agg (flat cW ((xs.drop (k * z)).take z))) :: ts,hs,n,z0⟩) : RW P N all Q md (⟨some d,.load t x,ty,pos,af,none⟩ :: rest) ⟨ts,hs,n,z0⟩ := by
 have e1 : (flat cW xs).drop (0 + k * z) = flat cW (xs.drop (k * z)) := by
  have := jA cW (e := 1) xs (k * z);rw [Nat.mul_one] at this;rw [Nat.zero_add,this]
 have e2 : (flat cW (xs.drop (k * z))).take z = flat cW ((xs.drop (k * z)).take z) := by
  have := dZ cW (e := 1) (xs.drop (k * z)) z;rw [Nat.mul_one] at this;exact this
 exact jX (cs := flat cW (xs.drop (k * z))) hx ha.pf hz.pf (by simp only [deref,hH,Option.map_some]; rw [e1]) e2 (by rw [eE,List.length_take,List.length_drop]; omega) (by have := dN h0;omega) (dN hN) (by rw [hmd.pf]; exact kk)
theorem ED {id o q:Nat}{t:TypeId}{x:Operand}{xs:List Nat}[ha:AgT P t false] (hx:ev (lk ts) x = some (.optr id o)) (hH:aO hs id = some (flat cW xs)) (ho:o = q) (hq:q < xs.length)
  (hN : Nat.blt d N = true) {md' : Md} [hmd : MdA md (rO x ++ rA (.optr id o)) [.inl d] md'] (kk : RW P N all Q md' rest ⟨(d,.v (.int .u64 ((xs[q]! : Nat) : Int))) :: ts,hs,n,z0⟩) : RW P N all Q md (⟨some d,.load t x,ty,pos,af,none⟩ :: rest) ⟨ts,hs,n,z0⟩ := by
 subst ho
 exact lI hx ha.pf (by simp only [deref,hH,Option.map_some]; rw [zA hq]) rfl (dN hN) (by rw [hmd.pf]; exact kk)
theorem zK {id z:Nat}{t:TypeId}{x y:Operand}{xs:List Nat}{cs:List AV}[hz:SzT P t z] (hx:ev (lk ts) x = some (.optr id 0)) (hy:ev (lk ts) y = some (.agg (flat cW xs))) (hH:aO hs id = some cs) (hl:xs.length = z) (hc:cs.length = z)
  {md' : Md} [hmd : MdA md (rO x ++ (rO y ++ [.inr id])) [.inr id] md'] (kk : RW P N all Q md' rest ⟨ts,(id,some (flat cW xs)) :: hs,n,z0⟩) : RW P N all Q md (⟨none,.store t x y,ty,pos,af,none⟩ :: rest) ⟨ts,hs,n,z0⟩ :=
 Ad (cs' := flat cW xs) hx hy hz.pf rfl (by rw [eE, hl]) hH (by rw [eE]; omega) (by
  unfold gQ
  rw [List.take_zero,List.nil_append,Nat.zero_add,eE,hl,List.drop_of_length_le (by omega),List.append_nil]) (by rw [hmd.pf]; exact kk)
theorem NF {a b:Nat}:0 + a * 6 + b * 1 = a * 6 + b := by omega
theorem NK {a:Nat}:0 + a * 1 = a := by omega
theorem HT {xs:List Nat}{k v a:Nat}(hk:k * 6 + v < xs.length):gQ (flat cW xs) (0 + k * 6 + v * 1) [.v (.int .u64 (a:Int))] = flat cW (xs.set (k * 6 + v) a):=by
 rw [show 0 + k * 6 + v * 1 = 0 + (k * 6 + v) * 1 by omega]; exact CM hk
theorem gL {T:Nat → Option AV}{H:Nat → Option (List AV)}{a t id z:Nat}{xs:List Nat}[ha:AgT P t true] [hz:SzT P t z] (h1:T a = some (.optr id 0)) (h2:H id = some (flat cW xs)) (hl:xs.length = z) (h0:0 < z) :
  yH P T H [.cell a t] = some [.agg (flat cW xs)] := by
 have e : (flat cW xs).take z = flat cW xs := List.take_of_length_le (by rw [eE,hl]; exact Nat.le_refl _)
 simp only [yH,Js,h1,deref,h2,Option.map_some,List.drop_zero,ha.pf,hz.pf,e,eE,hl]
 rw [if_pos ⟨trivial,by omega⟩]
end
theorem HE {m:Nat}:(List.replicate m ([Value.int .u64 0,Value.int .u64 0,Value.int .u64 0,Value.int .u64 0,Value.int .u64 0,Value.int .u64 0].map AV.v)).flatten = flat cW (List.replicate (m * 6) 0):=by
 induction m with
 | zero => rfl
 | succ m ih =>
  rw [List.replicate_succ,List.flatten_cons,ih,Nat.succ_mul,Nat.add_comm,← List.replicate_append_replicate,← cP]
  rfl
def nO (L : List Int) (f : List Nat) : List Nat := L.foldl (fun f v => f.set v.toNat 0) f
def yQ (ts : List Int) (pts : List Pnt) (i : Nat) (f : List Nat) : List Nat :=
 let x := pts[i]!
 let u := nO (aY (wS ts x [2])) f
 if aN x < 0 then u else
  let v := (aN x).toNat
  let u2 := if bU x = true then (u.set v 0).set v (2 ^ i) else u.set v 0
  if (bU x = true ∧ eO ts[x.y.toNat]! = true) ∨ x.op = 3 then u2.set v (u2[v]! ||| f[x.y.toNat]!) else u2
theorem oV:∀ (L:List Int) (f:List Nat),(nO L f).length = f.length
 | [],f => rfl
 | v :: L,f => by show (nO L (f.set v.toNat 0)).length = _; rw [oV L]; simp
theorem w9:∀ (L:List Int) (f:List Nat) (q:Nat),(nO L f)[q]! = if ∃ v ∈ L,v.toNat = q then 0 else f[q]!
 | [],f,q => by simp [nO]
 | v :: L, f, q => by
  show (nO L (f.set v.toNat 0))[q]! = _
  rw [w9 L]
  by_cases h : ∃ v ∈ L,v.toNat = q
  ·rw [if_pos h,if_pos (by obtain ⟨z,h1,h2⟩ := h;exact ⟨z,List.mem_cons_of_mem _ h1,h2⟩)]
  ·rw [if_neg h]
   by_cases hv : v.toNat = q
   ·rw [if_pos ⟨v, List.mem_cons_self, hv⟩]
    subst hv
    by_cases hq : v.toNat < f.length
    ·rw [c8 _ _ _ _ hq,if_pos rfl]
    ·rw [getElem!_neg (f.set v.toNat 0) v.toNat (by simpa using hq)]; rfl
   ·rw [if_neg (by rintro ⟨z, hz, e⟩; rcases List.mem_cons.1 hz with rfl | hz; exact hv e; exact h ⟨z, hz, e⟩)]
    simp only [List.getElem!_eq_getElem?_getD,List.getElem?_set_ne hv]
theorem JB (ts:List Int) (pts:List Pnt) (i:Nat) (f:List Nat):(yQ ts pts i f).length = f.length:=by
 unfold yQ
 dsimp only
 split
 ·exact oV _ _
 ·split <;> split <;> simp [oV]
theorem KK {L:List Int}{f:List Nat}(h:∀ z:Nat,Sm f[z]!) (z:Nat):Sm (nO L f)[z]!:=by
 rw [w9]; split
 ·infer_instance
 ·exact h z
theorem BC {f:List Nat}{k a:Nat}(h:∀ z:Nat,Sm f[z]!) (ha:Sm a) (z:Nat):Sm (f.set k a)[z]!:=by
 by_cases hk : k < f.length
 ·rw [c8 _ _ _ _ hk]; split
  ·exact ha
  ·exact h z
 ·rw [List.set_eq_of_length_le (by omega)]; exact h z
theorem iC {x:Pnt}(h:bU x = true):x.op = 4 ∨ x.op = 5 := by simpa [bU] using h
theorem Ej {L:List Int}{f:List Nat}{k:Nat}(h:k < L.length):nO (L.take (k + 1)) f = (nO (L.take k) f).set (L[k]!).toNat 0:=by
 unfold nO;rw [c9 _ _ _ _ h]
theorem gB {A n:Nat}(h:A < 2 ^ n){k:Nat}(hk:k < (aY A).length):0 ≤ (aY A)[k]! ∧ (aY A)[k]! < n:=by
 obtain ⟨v,h1,h2,h3⟩ := cL.1 (aP _ _ hk)
 have := b9 h h2
 omega
theorem bX (A:Nat):(aY A).length ≤ 62:=by
 unfold aY;rw [List.length_map]; exact Nat.le_trans (List.length_filter_le _ _) (by simp)
def b7 (A : List Nat) (i : Nat) : List Nat := (A.drop (i * 6)).take 6
theorem dV {A:List Nat}{i v n:Nat}(hA:A.length = n * 6) (hi:i < n) (hv:v < 6):(b7 A i)[v]! = A[i * 6 + v]!:=by
 have h2 : i * 6 + v < A.length := by omega
 rw [a8 _ _ h2,a8 _ _ (by unfold b7;simp;omega)]
 unfold b7;simp
theorem dW {A:List Nat}{i n:Nat}(hA:A.length = n * 6) (hi:i < n):(b7 A i).length = 6 := by unfold b7;simp;omega
theorem jJ {ts:List Int}{pts:List Pnt}(w:WG ts pts){i v l:Nat}{f:List Nat}(hi:i < pts.length) (hv:v < 6) (hf:f.length = 6) :
  (yQ ts pts i f)[v]!.testBit l = true ↔ (aN pts[i]! ≠ v ∧ a9 ts pts[i]! v ≠ 2 ∧ f[v]!.testBit l = true) ∨
   (aN pts[i]! = v ∧ ((bU pts[i]! = true ∧ l = i) ∨ (((bU pts[i]! = true ∧ eO ts[pts[i]!.y.toNat]! = true) ∨ pts[i]!.op = 3) ∧ f[pts[i]!.y.toNat]!.testBit l = true))) := by
 have hst := w.set i hi
 have htl := w.tl
 have hclr : ∀ q : Nat, (nO (aY (wS ts pts[i]! [2])) f)[q]! = if a9 ts pts[i]! q = 2 then 0 else f[q]! := by
  intro q
  rw [w9]
  have : (∃ z ∈ aY (wS ts pts[i]! [2]), z.toNat = q) ↔ a9 ts pts[i]! q = 2 := by
   constructor
   ·rintro ⟨z, hz, rfl⟩
    obtain ⟨q,h1,h2,rfl⟩ := cL.1 hz
    rw [cH] at h2
    simpa using (by simpa using h2 : q < ts.length ∧ a9 ts pts[i]! (q : Int) = 2).2
   ·intro h
    have := AD w hi (v := q) (by omega)
    exact ⟨(q : Int),cL.2 ⟨q,by omega,by rw [cH,Bool.and_eq_true,decide_eq_true_eq,decide_eq_true_eq]; exact ⟨this,by simp only [List.mem_singleton]; exact h⟩,rfl⟩,rfl⟩
  by_cases h : a9 ts pts[i]! q = 2
  ·rw [if_pos (this.2 h),if_pos h]
  ·rw [if_neg (fun q => h (this.1 q)),if_neg h]
 have hul : (nO (aY (wS ts pts[i]! [2])) f).length = 6 := by rw [oV,hf]
 unfold yQ
 dsimp only
 generalize nO (aY (wS ts pts[i]! [2])) f = u at hclr hul
 by_cases hneg : aN pts[i]! < 0
 ·rw [if_pos hneg, hclr]
  by_cases h2 : a9 ts pts[i]! v = 2
  ·rw [if_pos h2, Nat.zero_testBit]
   constructor
   ·intro h;cases h
   ·rintro (h | h)
    ·exact absurd h2 h.2.1
    ·omega
  ·rw [if_neg h2]
   constructor
   ·intro h;exact .inl ⟨by omega,h2,h⟩
   ·rintro (h | h)
    ·exact h.2.2
    ·omega
 ·rw [if_neg hneg]
  have hsv : (aN pts[i]!).toNat < 6 := by omega
  have heq : ∀ q : Nat,q = (aN pts[i]!).toNat ↔ aN pts[i]! = q := by intro q;omega
  -- the slot before the last step
  have hu2 : ∀ q : Nat, (if bU pts[i]! = true then (u.set (aN pts[i]!).toNat 0).set (aN pts[i]!).toNat (2 ^ i) else u.set (aN pts[i]!).toNat 0)[q]! = if q = (aN pts[i]!).toNat then (if bU pts[i]! = true then 2 ^ i else 0) else u[q]! := by
   intro q
   by_cases hl : bU pts[i]! = true
   ·rw [if_pos hl, if_pos hl, c8 _ _ _ _ (by rw [List.length_set]; omega), c8 _ _ _ _ (by omega)]
    split <;> rfl
   ·rw [if_neg hl,if_neg hl,c8 _ _ _ _ (by omega)]
  have hu2l : (if bU pts[i]! = true then (u.set (aN pts[i]!).toNat 0).set (aN pts[i]!).toNat (2 ^ i) else u.set (aN pts[i]!).toNat 0).length = 6 := by split <;> simp [hul]
  generalize (if bU pts[i]! = true then (u.set (aN pts[i]!).toNat 0).set (aN pts[i]!).toNat (2 ^ i) else u.set (aN pts[i]!).toNat 0) = u2 at hu2 hu2l
  have hln : ∀ l : Nat, (if bU pts[i]! = true then 2 ^ i else 0).testBit l = true ↔ bU pts[i]! = true ∧ l = i := by
   intro l
   have := @testBit_lnB pts i l
   unfold KB at this
   rw [this]; simp
  by_cases hc : (bU pts[i]! = true ∧ eO ts[pts[i]!.y.toNat]! = true) ∨ pts[i]!.op = 3
  ·rw [if_pos hc, c8 _ _ _ _ (by omega)]
   by_cases hv2 : v = (aN pts[i]!).toNat
   ·have hs := (heq v).1 hv2
    rw [if_pos hv2,← hv2,hu2,if_pos hv2,Nat.testBit_or,Bool.or_eq_true,hln]
    constructor
    ·rintro (h | h)
     ·exact .inr ⟨hs,.inl h⟩
     ·exact .inr ⟨hs,.inr ⟨hc,h⟩⟩
    ·rintro (h | ⟨_, h | h⟩)
     ·exact absurd hs h.1
     ·exact .inl h
     ·exact .inr h.2
   ·have hs : aN pts[i]! ≠ v := fun h => hv2 ((heq v).2 h)
    rw [if_neg hv2,hu2,if_neg hv2,hclr]
    by_cases h2 : a9 ts pts[i]! v = 2
    ·rw [if_pos h2, Nat.zero_testBit]
     constructor
     ·intro h;cases h
     ·rintro (h | h)
      ·exact absurd h2 h.2.1
      ·exact absurd h.1 hs
    ·rw [if_neg h2]
     constructor
     ·intro h;exact .inl ⟨hs,h2,h⟩
     ·rintro (h | h)
      ·exact h.2.2
      ·exact absurd h.1 hs
  ·rw [if_neg hc, hu2]
   by_cases hv2 : v = (aN pts[i]!).toNat
   ·have hs := (heq v).1 hv2
    rw [if_pos hv2,hln]
    constructor
    ·intro h;exact .inr ⟨hs,.inl h⟩
    ·rintro (h | ⟨_, h | h⟩)
     ·exact absurd hs h.1
     ·exact h
     ·exact absurd h.1 hc
   ·have hs : aN pts[i]! ≠ v := fun h => hv2 ((heq v).2 h)
    rw [if_neg hv2,hclr]
    by_cases h2 : a9 ts pts[i]! v = 2
    ·rw [if_pos h2, Nat.zero_testBit]
     constructor
     ·intro h;cases h
     ·rintro (h | h)
      ·exact absurd h2 h.2.1
      ·exact absurd h.1 hs
    ·rw [if_neg h2]
     constructor
     ·intro h;exact .inl ⟨hs,h2,h⟩
     ·rintro (h | h)
      ·exact h.2.2
      ·exact absurd h.1 hs
def MB (ts : List Int) (pts : List Pnt) (i v A : Nat) : Prop := A < 2 ^ pts.length ∧ ∀ l,A.testBit l = true → Ia ts pts (i,v,l)
def SF (ts : List Int) (pts : List Pnt) (s : List Nat) : Prop := s.length = pts.length * 6 ∧ ∀ i v,i < pts.length → v < 6 → MB ts pts i v s[i * 6 + v]!
def oW (ts : List Int) (pts : List Pnt) (A : List Nat) : Prop := A.length = pts.length * 6 ∧ ∀ i v,i < pts.length → v < 6 → ∀ l,A[i * 6 + v]!.testBit l = true ↔ Ia ts pts (i,v,l)
theorem Dx {ts:List Int}{pts:List Pnt}{A B:List Nat}(h1:oW ts pts A) (h2:oW ts pts B):A = B:=by
 refine jV h1.1 h2.1 fun q hq v => ?_
 have e : q = q / 6 * 6 + q % 6 := by omega
 have h3 : q / 6 < pts.length := by omega
 have h4 : q % 6 < 6 := by omega
 have a := h1.2 (q / 6) (q % 6) h3 h4 v
 have b := h2.2 (q / 6) (q % 6) h3 h4 v
 rw [← e] at a b
 exact a.trans b.symm
def pP (a : List Nat) (k : Nat) (s : List Nat × Bool) (v : Nat) : List Nat × Bool := kK nJ a[v]! s (k * 6 + v)
def uJ (a : List Nat) (s : List Nat × Bool) (k : Nat) : List Nat × Bool := (List.range 6).foldl (pP a k) s
def BU (ts : List Int) (pts : List Pnt) (s : List Nat × Bool) (i : Nat) : List Nat × Bool := (uE pts i).foldl (uJ (yQ ts pts i (b7 s.1 i))) s
def FM (ts : List Int) (pts : List Pnt) (s : List Nat × Bool) : List Nat × Bool := (List.range pts.length).foldl (BU ts pts) s
theorem Hg {a b n:Nat}(h1:a < 2 ^ n) (h2:b < 2 ^ n):a ||| b < 2 ^ n := Nat.or_lt_two_pow h1 h2
theorem CT {ts:List Int}{pts:List Pnt}(w:WG ts pts){s:List Nat}(h:SF ts pts s){i k v:Nat}(e:dF pts i k) (hv:v < 6):MB ts pts k v (yQ ts pts i (b7 s i))[v]!:=by
 have hi := e.1
 have hrl := dW h.1 hi
 have htl := w.tl
 have key : ∀ l, (yQ ts pts i (b7 s i))[v]!.testBit l = true → l < pts.length ∧ Ia ts pts (k, v, l) := by
  intro l hl
  rw [jJ w hi hv hrl] at hl
  rcases hl with ⟨h1,h2,h3⟩ | ⟨h1,⟨h2,rfl⟩ | ⟨h2,h3⟩⟩
  ·rw [dV h.1 hi hv] at h3
   have hp := h.2 i v hi hv
   exact ⟨b9 hp.1 h3,.step (hp.2 l h3) ⟨rfl,e,.inl ⟨h1,rfl,h2⟩⟩⟩
  ·exact ⟨hi,.base ⟨e,h2,h1⟩⟩
  ·have hy : 0 ≤ pts[i]!.y ∧ pts[i]!.y < ts.length := by
    have := w.y i hi
    rcases h2 with ⟨h2,_⟩|h2
    ·have := iC h2;omega
    ·omega
   have hy6 : pts[i]!.y.toNat < 6 := by omega
   rw [dV h.1 hi hy6] at h3
   have hp := h.2 i _ hi hy6
   exact ⟨b9 hp.1 h3,.step (hp.2 l h3) ⟨rfl,e,.inr ⟨h1,by show ((pts[i]!.y.toNat : Nat) : Int) = pts[i]!.y;omega,h2⟩⟩⟩
 refine ⟨?_,fun l hl => (key l hl).2⟩
 apply Nat.lt_pow_two_of_testBit
 intro l hl
 cases hq : (yQ ts pts i (b7 s i))[v]!.testBit l with
 | false => rfl
 | true => have := (key l hq).1;omega
theorem AT {ts:List Int}{pts:List Pnt}{a:List Nat}{k:Nat}(hk:k < pts.length) (ha:∀ v,v < 6 → MB ts pts k v a[v]!) (s:List Nat) (b:Bool) (v:Nat) (hv:v < 6) (h:SF ts pts s) :
  SF ts pts (pP a k (s,b) v).1 ∧ ((pP a k (s,b) v = (s,b) ∧ nJ s[k * 6 + v]! a[v]! = s[k * 6 + v]!) ∨ ((pP a k (s,b) v).2 = true ∧ dS ((pP a k (s,b) v).1.map (fun x => 2 ^ pts.length - x)) < dS (s.map (fun x => 2 ^ pts.length - x)))) := by
 unfold pP kK
 dsimp only
 have hq : k * 6 + v < s.length := by rw [h.1]; omega
 have hp := h.2 k v hk hv
 by_cases hc : nJ s[k * 6 + v]! a[v]! ≠ s[k * 6 + v]!
 ·rw [if_pos hc]
  have hb := Hg hp.1 (ha v hv).1
  refine ⟨⟨by simp [h.1],fun i u hi hu => ?_⟩,.inr ⟨rfl,?_⟩⟩
  ·dsimp only
   rw [c8 _ _ _ _ hq]
   split
   ·rename_i e
    obtain rfl : i = k := by omega
    obtain rfl : u = v := by omega
    refine ⟨hb,fun l hl => ?_⟩
    rw [Nat.testBit_or,Bool.or_eq_true] at hl
    rcases hl with hl|hl
    ·exact hp.2 l hl
    ·exact (ha _ hv).2 l hl
   ·exact h.2 i u hi hu
  ·have h1 := lQ (fun x => 2 ^ pts.length - x) s (k * 6 + v) (nJ s[k * 6 + v]! a[v]!) hq
   have h2 := lP hc
   dsimp only at h1 ⊢
   have h3 : nJ s[k * 6 + v]! a[v]! < 2 ^ pts.length := hb
   have h4 : s[k * 6 + v]! < nJ s[k * 6 + v]! a[v]! := h2
   omega
 ·rw [if_neg hc]
  exact ⟨h,.inl ⟨rfl,Classical.not_not.1 hc⟩⟩
theorem Gb {ts:List Int}{pts:List Pnt}{a:List Nat}{k:Nat}(hk:k < pts.length) (ha:∀ v,v < 6 → MB ts pts k v a[v]!) (s:List Nat) (b:Bool) (h:SF ts pts s) :
  SF ts pts (uJ a (s,b) k).1 ∧ ((uJ a (s,b) k = (s,b) ∧ ∀ v,v < 6 → nJ s[k * 6 + v]! a[v]! = s[k * 6 + v]!) ∨ ((uJ a (s,b) k).2 = true ∧ dS ((uJ a (s,b) k).1.map (fun x => 2 ^ pts.length - x)) < dS (s.map (fun x => 2 ^ pts.length - x)))) := by
 have := gT (pP a k) (fun v s => nJ s[k * 6 + v]! a[v]! = s[k * 6 + v]!) (fun s => dS (s.map (fun x => 2 ^ pts.length - x))) (SF ts pts) (List.range 6)
  (fun s' b' v hv hs => AT hk ha s' b' v (List.mem_range.1 hv) hs) s b h
 refine ⟨this.1,?_⟩
 rcases this.2 with ⟨e1,e2⟩|h2
 ·exact .inl ⟨e1,fun v hv => e2 v (List.mem_range.2 hv)⟩
 ·exact .inr h2
theorem HQ {ts:List Int}{pts:List Pnt}(w:WG ts pts) (s:List Nat) (b:Bool) (i:Nat) (hi:i < pts.length) (h:SF ts pts s) :
  SF ts pts (BU ts pts (s, b) i).1 ∧ ((BU ts pts (s, b) i = (s, b) ∧ ∀ k, dF pts i k → ∀ v, v < 6 → nJ s[k * 6 + v]! (yQ ts pts i (b7 s i))[v]! = s[k * 6 + v]!) ∨
   ((BU ts pts (s,b) i).2 = true ∧ dS ((BU ts pts (s,b) i).1.map (fun x => 2 ^ pts.length - x)) < dS (s.map (fun x => 2 ^ pts.length - x)))) := by
 have := gT (uJ (yQ ts pts i (b7 s i))) (fun k s' => ∀ v, v < 6 → nJ s'[k * 6 + v]! (yQ ts pts i (b7 s i))[v]! = s'[k * 6 + v]!) (fun s => dS (s.map (fun x => 2 ^ pts.length - x))) (SF ts pts) (uE pts i)
  (fun s' b' k hk hs => by
   have e := (oX w hi).1 hk
   exact Gb (dD w e) (fun v hv => CT w h e hv) s' b' hs) s b h
 refine ⟨this.1,?_⟩
 rcases this.2 with ⟨e1,e2⟩|h2
 ·exact .inl ⟨e1,fun k e => e2 k ((oX w hi).2 e)⟩
 ·exact .inr h2
def w6 (ts : List Int) (pts : List Pnt) (s : List Nat) : Prop := ∀ i k,dF pts i k → ∀ v,v < 6 → nJ s[k * 6 + v]! (yQ ts pts i (b7 s i))[v]! = s[k * 6 + v]!
theorem G5 {ts:List Int}{pts:List Pnt}(w:WG ts pts) (s:List Nat) (b:Bool) (h:SF ts pts s) :
  SF ts pts (FM ts pts (s,b)).1 ∧ ((FM ts pts (s,b) = (s,b) ∧ w6 ts pts s) ∨ ((FM ts pts (s,b)).2 = true ∧ dS ((FM ts pts (s,b)).1.map (fun x => 2 ^ pts.length - x)) < dS (s.map (fun x => 2 ^ pts.length - x)))) := by
 have := gT (BU ts pts) (fun i s => ∀ k, dF pts i k → ∀ v, v < 6 → nJ s[k * 6 + v]! (yQ ts pts i (b7 s i))[v]! = s[k * 6 + v]!) (fun s => dS (s.map (fun x => 2 ^ pts.length - x))) (SF ts pts) (List.range pts.length)
  (fun s' b' i hi hs => HQ w s' b' i (List.mem_range.1 hi) hs) s b h
 refine ⟨this.1,?_⟩
 rcases this.2 with ⟨e1,e2⟩|h2
 ·exact .inl ⟨e1,fun i k e => e2 i (List.mem_range.2 e.1) k e⟩
 ·exact .inr h2
theorem vX {ts:List Int}{pts:List Pnt}(w:WG ts pts){a:Nat × Nat × Nat}(h:Ia ts pts a):a.1 < pts.length ∧ a.2.1 < ts.length ∧ a.2.2 < pts.length:=by
 induction h with
 | @base a h =>
  have h1 := (w.set _ h.1.1).1
  have h2 := h.2.2
  exact ⟨dD w h.1,by omega,h.1.1⟩
 | @step a b _ r ih =>
  refine ⟨dD w r.2.1,?_,by rw [r.1]; exact ih.2.2⟩
  rcases r.2.2 with ⟨_,h,_⟩ | ⟨h,_⟩
  ·rw [h]; exact ih.2.1
  ·have h1 := (w.set _ r.2.1.1).1
   omega
theorem Fv {ts:List Int}{pts:List Pnt}(w:WG ts pts){A:List Nat}(h:SF ts pts A) (hc:w6 ts pts A):oW ts pts A:=by
 refine ⟨h.1,fun i v hi hv l => ⟨fun hl => (h.2 i v hi hv).2 l hl,fun hm => ?_⟩⟩
 have htl := w.tl
 have key : ∀ a : Nat × Nat × Nat, Ia ts pts a → A[a.1 * 6 + a.2.1]!.testBit a.2.2 = true ∧ a.2.1 < ts.length := by
  refine Clo.sub (T := fun a : Nat × Nat × Nat => A[a.1 * 6 + a.2.1]!.testBit a.2.2 = true ∧ a.2.1 < ts.length) ?_ ?_
  ·rintro ⟨k, v, l⟩ ⟨e, hl, hs⟩
   dsimp only at e hl hs ⊢
   have h1 := (w.set _ e.1).1
   have hv : v < 6 := by omega
   refine ⟨fM.1 (hc l k e v hv) l ?_,by omega⟩
   rw [jJ w e.1 hv (dW h.1 e.1)]
   exact .inr ⟨hs,.inl ⟨hl,rfl⟩⟩
  ·rintro ⟨i, v, l⟩ ⟨k, v', l'⟩ ⟨ht, hv⟩ ⟨rfl, e, hd⟩
   dsimp only at ht hv e hd ⊢
   have h1 := (w.set _ e.1).1
   rcases hd with ⟨g1,rfl,g3⟩ | ⟨g1,g2,g3⟩
   ·refine ⟨fM.1 (hc i k e v' (by omega)) l' ?_, hv⟩
    rw [jJ w e.1 (by omega) (dW h.1 e.1),dV h.1 e.1 (by omega)]
    exact .inl ⟨g1,g3,ht⟩
   ·refine ⟨fM.1 (hc i k e v' (by omega)) l' ?_, by omega⟩
    rw [jJ w e.1 (by omega) (dW h.1 e.1)]
    have : pts[i]!.y.toNat = v := by omega
    rw [this,dV (v := v) h.1 e.1 (by omega)]
    exact .inr ⟨g1,.inr ⟨g3,ht⟩⟩
 exact (key (i,v,l) hm).1
theorem Ln {ts:List Int}{pts:List Pnt}:SF ts pts (List.replicate (pts.length * 6) 0):=by
 refine ⟨by simp,fun i v hi hv => ?_⟩
 rw [a8 _ _ (by simp;omega),List.getElem_replicate]
 exact ⟨Nat.pow_pos (by decide),fun l h => by simp at h⟩
theorem Kg {ts:List Int}{pts:List Pnt}(w:WG ts pts){s:List Nat}(h:SF ts pts s) (q:Nat):Sm s[q]!:=by
 have hpl := w.pl
 by_cases hq : q < s.length
 ·have e : q = q / 6 * 6 + q % 6 := by omega
  have := h.1
  have := (h.2 (q / 6) (q % 6) (by omega) (by omega)).1
  rw [← e] at this
  exact ⟨Nat.lt_of_lt_of_le this (Nat.pow_le_pow_right (by decide) (by omega))⟩
 ·rw [getElem!_neg s q hq]; exact ⟨by decide⟩
theorem wB (a:List Nat) (k v:Nat) (s:List Nat × Bool):(List.range (v + 1)).foldl (pP a k) s = pP a k ((List.range v).foldl (pP a k) s) v := dP _ _ _
theorem EX {a:List Nat}{pts:List Pnt}{i j:Nat}(h:j < pts[i]!.next.length) (s:List Nat × Bool) :
  ((uE pts i).take (j + 1)).foldl (uJ a) s = uJ a (((uE pts i).take j).foldl (uJ a) s) (pts[i]!.next[j]!).toNat := by
 rw [c9 _ _ _ _ (by rw [kX]; exact h),yR h]
section
theorem eY {e:Nat}(hM:Nat.blt n aQ = true) (hN:Nat.blt d N = true) (kk:RW P N all Q .txt rest ⟨(d,.own n 0 0 e) :: ts,(n,some []) :: hs,n + 1,z0⟩) :
  RW P N all Q .txt (⟨some d,.assign (.const (.slice none 0 0)),ty,pos,af,none⟩ :: rest) ⟨ts,hs,n,z0⟩ := by
 refine vM (av := .v (.slice none 0 0)) rfl hN (md' := .txt) (cY kk ((Le.nilOwn (d := d) e (by simp [kI]) (dN hM)).trans ?_))
 refine Le.of (fun t av h => ?_) (fun i c h => h) (Nat.le_refl _) rfl
 show lk ((d,.own n 0 0 e) :: (d,.v (.slice none 0 0)) :: ts) t = _
 have h' : lk ((d,.own n 0 0 e) :: ts) t = some av := h
 simp only [kI] at h' ⊢
 split
 ·rename_i q;rw [if_pos q] at h'; exact h'
 ·rename_i q;rw [if_neg q] at h'; exact h'
theorem Bu {xs:List Nat}{t el m:Nat}{x i:Operand}{kk0:IntKind}{k:Int}[ht:SlT P t el] [he:SzT P el 6] (hx:ev (lk ts) x = some (.imm m (flat cW xs)))
  (hi : ev (lk ts) i = some (.v (.int kk0 k))) (hm : 0 ≤ k ∧ k < m) (hN : Nat.blt d N = true) {md' : Md} [hmd : MdA md (rO x ++ rO i) [.inl d] md'] (kk : RW P N all Q md' rest ⟨(d,.iptr (flat cW (xs.drop (k.toNat * 6)))) :: ts,hs,n,z0⟩) :
  RW P N all Q md (⟨some d,.indexAddr t x i,ty,pos,af,none⟩ :: rest) ⟨ts,hs,n,z0⟩ :=
 fX (out := .iptr (flat cW (xs.drop (k.toNat * 6)))) hx hi ht.pf he.pf (by
  simp only [A4]; rw [if_pos hm]
  have := jA cW (e := 1) xs (k.toNat * 6);rw [Nat.mul_one] at this;rw [this]) (dN hN) (by rw [hmd.pf]; exact kk)
theorem zH {z:Nat}{t:TypeId}{x:Operand}{xs:List Nat}[ha:AgT P t true] [hz:SzT P t z] (hx:ev (lk ts) x = some (.iptr (flat cW xs))) (hl:z ≤ xs.length) (h0:Nat.blt 0 z = true)
  (hN : Nat.blt d N = true) {md' : Md} [hmd : MdA md (rO x ++ rA (.iptr (flat cW xs))) [.inl d] md'] (kk : RW P N all Q md' rest ⟨(d,.agg (flat cW (xs.take z))) :: ts,hs,n,z0⟩) : RW P N all Q md (⟨some d,.load t x,ty,pos,af,none⟩ :: rest) ⟨ts,hs,n,z0⟩ := by
 have e2 : (flat cW xs).take z = flat cW (xs.take z) := by have := dZ cW (e := 1) xs z;rw [Nat.mul_one] at this;exact this
 exact jX (cs := flat cW xs) hx ha.pf hz.pf rfl e2 (by rw [eE,List.length_take]; omega) (by have := dN h0;omega) (dN hN) (by rw [hmd.pf]; exact kk)
end
end Go.AL
