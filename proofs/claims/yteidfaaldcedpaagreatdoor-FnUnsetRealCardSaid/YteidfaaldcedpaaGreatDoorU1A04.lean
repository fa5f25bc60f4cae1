/-
 A part of the proofs over this program: rules and contracts of its functions (the rules).
-/
import Derived.Test.YteidfaaldcedpaaGreatDoorU1A03
set_option linter.unusedVariables false
set_option linter.unusedSimpArgs false
namespace Go.AL
open Go.RowKit
variable {P : Program} {N : Nat} {Q : Exit → AS → Prop} {all : Array Oper} {rest : List Oper} {ts : List (Nat × AV)} {hs : List (Nat × Option (List AV))} {n : Nat} {z0 : Lo} {md : Md}
variable {d : Nat} {ty : TypeId} {pos : String} {af : Array Edge}
section
def AM : AV → Option (FuncId × List AV × List AV)
 | .clos (.func k) f c => some (k,f,c)
 | .v (.func (.func k) ⟨[]⟩ ⟨[]⟩) => some (k,[],[])
 | _ => none
theorem GU {w:World}{bad:Nat → Prop}{ι:Pl}{av:AV}{y:Value}{k:FuncId}{f c:List AV}(h:AM av = some (k,f,c)) (hy:Rd w bad ι av y) :
  ∃ lf lc : List Value,y = .func (.func k) lf.toArray lc.toArray ∧ RdV w bad ι f lf ∧ RdV w bad ι c lc := by
 unfold AM at h
 split at h
 ·cases h;simpa only [Rd] using hy
 ·cases h;simp only [Rd] at hy;exact ⟨[],[],hy,by simp [RdV],by simp [RdV]⟩
 ·cases h
theorem o9 {w:World}{bad:Nat → Prop}{ι:Pl}:∀ {a b:List AV}{la lb:List Value},RdV w bad ι a la → RdV w bad ι b lb → RdV w bad ι (a ++ b) (la ++ lb)
 | [],b,la,lb,h1,h2 => by simp only [RdV] at h1;subst h1;exact h2
 | x :: a, b, la, lb, h1, h2 => by
  simp only [RdV] at h1
  obtain ⟨y,l',rfl,h3,h4⟩ := h1
  simp only [List.cons_append,RdV]
  exact ⟨y,_,rfl,h3,o9 h4 h2⟩
theorem Dc {k:FuncId}{t:Nat}{args:Array Operand}{tys:Array TypeId}(hc:eZ P k = true) (dst:Option Tmp) (a:Act) (w:World){lf lc:List Value}(hy:a.eval (.tmp t) = .func (.func k) lf.toArray lc.toArray) :
  (execOp a.eval ⟨dst,.call ⟨.value (.tmp t),args,tys⟩,ty,pos,af,none⟩).run P w = .ok (.enter k (lf ++ args.toList.map a.eval ++ lc).toArray) w := by
 simp only [execOp,Sem.run_bind,resolve,hy,Deferred.ofValue,Sem.run_pure,Result.andThen_ok,invoke,BK hc]
 congr 2
 apply Array.ext'
 simp
theorem H5 {k:FuncId}{t:Nat}{args:Array Operand}{tys:Array TypeId}{avs f c:List AV}{fv:AV}{r:AV}(hc:eZ P k = true) (hx:lk ts t = some fv) (hcl:AM fv = some (k,f,c)) (ha:evL (lk ts) args.toList = some avs)
  (h : PC P k (f ++ avs ++ c) (fun x => x = r)) (hp : bR (f ++ avs ++ c) = true) (hN : d < N)
  (kk : RW P N all Q (md.add (rO (.tmp t) ++ fF args.toList) [.inl d]) rest ⟨(d,r) :: ts,hs,n,z0⟩) : RW P N all Q md (⟨some d,.call ⟨.value (.tmp t),args,tys⟩,ty,pos,af,none⟩ :: rest) ⟨ts,hs,n,z0⟩ := by
 refine kI (rs := rO (.tmp t) ++ fF args.toList) (ws := []) (n' := n) (out := r) rfl (Nat.le_refl _) (.inl rfl) (fun C ι F T H a w K Q' hCN ag hF g gh hK => ?_) (fun x hx => by cases hx;exact hN) kk
 obtain ⟨lf,lc,hy,h1,h2⟩ := GU hcl (bU g (x := .tmp t) (ag.l.ev.trans hx))
 simp only [Oper.wp,Dc hc _ a w hy,Oper.upon]
 refine (rY h hp gh (o9 (o9 h1 (iV g (ag.r.evL.trans ha))) h2)).mono ?_
 rintro e w' ⟨v,r',rfl,h2,h3,h4,h5,h6⟩
 subst h2
 exact hK ι w' v (g.carry h5) (h4.less (fun _ _ h => h) (fun j hj => hj.1)).1 h6
theorem gQ {k:FuncId}{t:Nat}{args:Array Operand}{tys:Array TypeId}{avs f c:List AV}{fv:AV}{r:AV}(hx:lk ts t = some fv) (hcl:AM fv = some (k,f,c)) (hc:CaT P k) (ha:evL (lk ts) args.toList = some avs)
  (h : PC P k (f ++ avs ++ c) (fun x => x = r)) (hp : bR (f ++ avs ++ c) = true) (hN : Nat.blt d N = true) {md' : Md} [hmd : MdA md (rO (.tmp t) ++ fF args.toList) [.inl d] md']
  (kk : RW P N all Q md' rest ⟨(d,r) :: ts,hs,n,z0⟩) : RW P N all Q md (⟨some d,.call ⟨.value (.tmp t),args,tys⟩,ty,pos,af,none⟩ :: rest) ⟨ts,hs,n,z0⟩ :=
 H5 hc.pf hx hcl ha h hp (cS hN) (by rw [hmd.pf]; exact kk)
theorem mX {fn:Go.Fn}{fs cs:Array Operand}{f c:List AV}(hf:evL (lk ts) fs.toList = some f) (hc:evL (lk ts) cs.toList = some c) (hN:Nat.blt d N = true){md':Md}[hmd:MdA md (fF fs.toList ++ fF cs.toList) [.inl d] md']
  (kk : RW P N all Q md' rest ⟨(d,.clos fn f c) :: ts,hs,n,z0⟩) : RW P N all Q md (⟨some d,.makeFunc fn fs cs,ty,pos,af,none⟩ :: rest) ⟨ts,hs,n,z0⟩ := by
 refine dI (out := .clos fn f c) (rs := fF fs.toList ++ fF cs.toList) rfl rfl (cS hN) (fun C ι F T H a w ag g gh => ?_) (by rw [hmd.pf]; exact kk)
 refine ⟨.func fn (fs.map a.eval) (cs.map a.eval),by simp [execOp,Instr.makeFunc],?_⟩
 simp only [Rd]
 exact ⟨fs.toList.map a.eval,cs.toList.map a.eval,by rw [← Array.toList_map,← Array.toList_map,Array.toArray_toList,Array.toArray_toList],iV g (ag.l.evL.trans hf),iV g (ag.r.evL.trans hc)⟩
end
class Sm (n : Nat) : Prop where pf : n < 2 ^ 62
def oJ (a b : Nat) : Nat := a ^^^ (a &&& b)
theorem c8 (a b i:Nat):(oJ a b).testBit i = (a.testBit i && !b.testBit i):=by
 simp only [oJ,Nat.testBit_xor,Nat.testBit_and]; cases a.testBit i <;> cases b.testBit i <;> rfl
instance (a b : Nat) [h : Sm a] [h2 : Sm b] : Sm (a ||| b):=⟨Nat.or_lt_two_pow h.pf h2.pf⟩
instance (a b : Nat) [h : Sm a] : Sm (a &&& b):=⟨Nat.lt_of_le_of_lt Nat.and_le_left h.pf⟩
instance (a b : Nat) [h : Sm a] : Sm (oJ a b):=⟨Nat.xor_lt_two_pow h.pf (Nat.lt_of_le_of_lt Nat.and_le_left h.pf)⟩
instance (a b : Nat) [h : Sm a] : Sm (a >>> b):=⟨Nat.lt_of_le_of_lt (by rw [Nat.shiftRight_eq_div_pow]; exact Nat.div_le_self _ _) h.pf⟩
instance : Sm 0:=⟨by decide⟩
instance : Sm 1:=⟨by decide⟩
theorem Sm.pow {k:Nat}(h:k < 62):Sm (2 ^ k) := ⟨Nat.pow_lt_pow_right (by decide) h⟩
class K6 (k : IntKind) : Prop where pf : k = .i64 ∨ k = .u64
instance : K6 .i64:=⟨.inl rfl⟩
instance : K6 .u64:=⟨.inr rfl⟩
theorem tP {k:IntKind}[hk:K6 k] {a:Nat}(h:a < 2 ^ 62):k.wrap (a:Int) = (a:Int):=by
 rcases hk.pf with rfl|rfl
 ·exact uW (by omega)
 ·simp only [IntKind.wrap]
  first
  | (simp [IntKind.bits,IntKind.signed]; omega)
  | omega
theorem BE {k:IntKind}[hk:K6 k]:k.bits = 64 := by rcases hk.pf with rfl | rfl <;> rfl
theorem lC (a:Nat) (h:a < 2 ^ 62):BitVec.ofInt 64 (a:Int) = BitVec.ofNat 64 a := qX (a:Int) ⟨by omega,by omega⟩
theorem nB (a:Nat) (h:a < 2 ^ 62):(BitVec.ofNat 64 a).toNat = a := by rw [BitVec.toNat_ofNat,Nat.mod_eq_of_lt (by omega)]
theorem Nw {k:IntKind}[hk:K6 k] (a b:Nat) [ha:Sm a] [hb:Sm b]:gN .or k a b = some (.int k ((a ||| b:Nat):Int)):=by
 simp only [gN]; rw [BE,lC a ha.pf,lC b hb.pf,BitVec.toNat_or,nB a ha.pf,nB b hb.pf,tP (Nat.or_lt_two_pow ha.pf hb.pf)]
theorem B5 {k:IntKind}[hk:K6 k] (a b:Nat) [ha:Sm a] [hb:Sm b]:gN .and k a b = some (.int k ((a &&& b:Nat):Int)):=by
 simp only [gN]; rw [BE,lC a ha.pf,lC b hb.pf,BitVec.toNat_and,nB a ha.pf,nB b hb.pf,tP (Nat.and_lt_two_pow _ hb.pf)]
theorem Jc {k:IntKind}[hk:K6 k] (a b:Nat) [ha:Sm a] [hb:Sm b]:gN .andNot k a b = some (.int k ((oJ a b:Nat):Int)):=by
 simp only [gN]
 have e : (BitVec.ofInt 64 (a : Int) &&& ~~~ BitVec.ofInt 64 (b : Int)).toNat = oJ a b := by
  rw [lC a ha.pf,lC b hb.pf]
  apply Nat.eq_of_testBit_eq
  intro i
  rw [BitVec.toNat_and,Nat.testBit_and,c8,nB a ha.pf]
  cases h : a.testBit i with
  | false => simp
  | true =>
   have hi : i < 64 := by
    rcases Nat.lt_or_ge i 62 with h1|h1
    ·omega
    ·have := Nat.testBit_lt_two_pow (Nat.lt_of_lt_of_le ha.pf (Nat.pow_le_pow_right (by decide) h1));rw [h] at this;cases this
   rw [← BitVec.getLsbD,BitVec.getLsbD_not,BitVec.getLsbD_ofNat]
   simp [hi]
 rw [BE,e,tP (inferInstance : Sm (oJ a b)).pf]
theorem HE {k:IntKind}[hk:K6 k] (m:Int) (h:0 ≤ m ∧ m < 62):gN .shl k 1 m = some (.int k ((2 ^ m.toNat:Nat):Int)):=by
 obtain ⟨j,rfl⟩ := Int.eq_ofNat_of_zero_le h.1
 simp only [gN]
 rw [if_neg (by omega),BE,Int.toNat_natCast,Nat.min_eq_left (by omega),Int.one_mul]
 rw [show ((2 : Int) ^ j) = ((2 ^ j : Nat) : Int) by simp,tP (Sm.pow (by omega)).pf]
theorem K7 {k:IntKind}[hk:K6 k] (a:Nat) [ha:Sm a] (m:Int) (h:0 ≤ m ∧ m < 64):gN .shr k a m = some (.int k ((a >>> m.toNat:Nat):Int)):=by
 obtain ⟨j,rfl⟩ := Int.eq_ofNat_of_zero_le h.1
 simp only [gN]
 rw [if_neg (by omega),BE,Int.toNat_natCast,Nat.min_eq_left (by omega)]
 congr 2
 rw [Nat.shiftRight_eq_div_pow,Int.fdiv_eq_ediv_of_nonneg _ (by exact Int.le_of_lt (Int.pow_pos (by decide)))]
 simp
section
theorem OS {k:IntKind}{t t':TypeId}{x y:Operand}{a b:Nat}(hx:ev (lk ts) x = some (.v (.int k (a:Int)))) (hy:ev (lk ts) y = some (.v (.int k (b:Int)))) (hk:K6 k) (ha:Sm a) (hb:Sm b)
  (hN : Nat.blt d N = true) {md' : Md} [hmd : MdA md (rO x ++ rO y) [.inl d] md'] (kk : RW P N all Q md' rest ⟨(d,.v (.int k ((a ||| b : Nat) : Int))) :: ts,hs,n,z0⟩) : RW P N all Q md (⟨some d,.binOp .or t x y t',ty,pos,af,none⟩ :: rest) ⟨ts,hs,n,z0⟩ :=
 dT hx hy (.inl rfl) (Nw a b) (cS hN) (by rw [hmd.pf]; exact kk)
theorem M6 {k:IntKind}{t t':TypeId}{x y:Operand}{a b:Nat}(hx:ev (lk ts) x = some (.v (.int k (a:Int)))) (hy:ev (lk ts) y = some (.v (.int k (b:Int)))) (hk:K6 k) (ha:Sm a) (hb:Sm b)
  (hN : Nat.blt d N = true) {md' : Md} [hmd : MdA md (rO x ++ rO y) [.inl d] md'] (kk : RW P N all Q md' rest ⟨(d,.v (.int k ((a &&& b : Nat) : Int))) :: ts,hs,n,z0⟩) : RW P N all Q md (⟨some d,.binOp .and t x y t',ty,pos,af,none⟩ :: rest) ⟨ts,hs,n,z0⟩ :=
 dT hx hy (.inl rfl) (B5 a b) (cS hN) (by rw [hmd.pf]; exact kk)
theorem LU {k:IntKind}{t t':TypeId}{x y:Operand}{a b:Nat}(hx:ev (lk ts) x = some (.v (.int k (a:Int)))) (hy:ev (lk ts) y = some (.v (.int k (b:Int)))) (hk:K6 k) (ha:Sm a) (hb:Sm b)
  (hN : Nat.blt d N = true) {md' : Md} [hmd : MdA md (rO x ++ rO y) [.inl d] md'] (kk : RW P N all Q md' rest ⟨(d,.v (.int k ((oJ a b : Nat) : Int))) :: ts,hs,n,z0⟩) : RW P N all Q md (⟨some d,.binOp .andNot t x y t',ty,pos,af,none⟩ :: rest) ⟨ts,hs,n,z0⟩ :=
 dT hx hy (.inl rfl) (Jc a b) (cS hN) (by rw [hmd.pf]; exact kk)
theorem kK {k k':IntKind}{t t':TypeId}{x y:Operand}{m:Int}(hx:ev (lk ts) x = some (.v (.int k 1))) (hy:ev (lk ts) y = some (.v (.int k' m))) (hk:K6 k) (h:0 ≤ m ∧ m < 62)
  (hN : Nat.blt d N = true) {md' : Md} [hmd : MdA md (rO x ++ rO y) [.inl d] md'] (kk : Sm (2 ^ m.toNat) → RW P N all Q md' rest ⟨(d,.v (.int k ((2 ^ m.toNat : Nat) : Int))) :: ts,hs,n,z0⟩) : RW P N all Q md (⟨some d,.binOp .shl t x y t',ty,pos,af,none⟩ :: rest) ⟨ts,hs,n,z0⟩ :=
 dT hx hy (.inr (.inl rfl)) (HE m h) (cS hN) (by rw [hmd.pf]; exact kk (Sm.pow (by omega)))
theorem NM {k k':IntKind}{t t':TypeId}{x y:Operand}{a:Nat}{m:Int}(hx:ev (lk ts) x = some (.v (.int k (a:Int)))) (hy:ev (lk ts) y = some (.v (.int k' m))) (hk:K6 k) (ha:Sm a) (h:0 ≤ m ∧ m < 64)
  (hN : Nat.blt d N = true) {md' : Md} [hmd : MdA md (rO x ++ rO y) [.inl d] md'] (kk : RW P N all Q md' rest ⟨(d,.v (.int k ((a >>> m.toNat : Nat) : Int))) :: ts,hs,n,z0⟩) : RW P N all Q md (⟨some d,.binOp .shr t x y t',ty,pos,af,none⟩ :: rest) ⟨ts,hs,n,z0⟩ :=
 dT hx hy (.inr (.inr rfl)) (K7 a m h) (cS hN) (by rw [hmd.pf]; exact kk)
end
mutual
def pD : Stmt → Nat
 | .mk op _ _ _ th el => if op = 9 then 2 + dB th + dB el else if op = 10 then 2 + dB th else 1
def dB : List Stmt → Nat
 | [] => 0
 | s :: l => pD s + dB l
end
mutual
def wR (b : Nat) : Stmt → List Pnt
 | .mk op x y n th el =>
  if op = 9 then [⟨9,0,0,0,[(b : Int) + 1,(b : Int) + 1 + dB th + 1]⟩] ++ fS (b + 1) th ++ [⟨10,0,0,1,[(b : Int) + 2 + dB th + dB el]⟩] ++ fS (b + 2 + dB th) el
  else if op = 10 then [⟨10,0,0,0,[(b : Int) + 1,(b : Int) + 2 + dB th]⟩] ++ fS (b + 1) th ++ [⟨10,0,0,1,[(b : Int)]⟩]
  else [⟨op,x,y,n,[(b : Int) + 1]⟩]
def fS (b : Nat) : List Stmt → List Pnt
 | [] => []
 | s :: l => wR b s ++ fS (b + pD s) l
end
mutual
theorem E8:∀ (s:Stmt) (b:Nat),(wR b s).length = pD s
 | .mk op x y n th el, b => by
  have h1 := bV th (b + 1)
  have h2 := bV el (b + 2 + dB th)
  simp only [wR,pD]
  split
  ·simp [h1,h2]; omega
  ·split
   ·simp [h1]; omega
   ·simp
theorem bV:∀ (l:List Stmt) (b:Nat),(fS b l).length = dB l
 | [],b => by simp [fS,dB]
 | s :: l,b => by simp only [fS,dB,List.length_append,E8 s b,bV l (b + pD s)]
end
mutual
theorem Qp:∀ (s:Stmt),pD s ≤ 2 * cH s
 | .mk op x y n th el => by
  have h1 := lP th
  have h2 := lP el
  simp only [pD,cH]; split
  ·omega
  ·split <;> omega
theorem lP:∀ (l:List Stmt),dB l ≤ 2 * aR l
 | [] => by simp [dB,aR]
 | s :: l => by have h1 := Qp s;have h2 := lP l;simp only [dB,aR]; omega
end
theorem oY:∀ a b,dB (a ++ b) = dB a + dB b
 | [],b => by simp [dB]
 | s :: a,b => by simp only [List.cons_append,dB,oY a b]; omega
theorem wC:∀ (a b:List Stmt) (k:Nat),fS k (a ++ b) = fS k a ++ fS (k + dB a) b
 | [],b,k => by simp [fS,dB]
 | s :: a,b,k => by simp only [List.cons_append,fS,dB,wC a b,List.append_assoc,Nat.add_assoc]
theorem gL (l:List Stmt) (b k:Nat) (hk:k < l.length):fS b (l.take (k + 1)) = fS b (l.take k) ++ wR (b + dB (l.take k)) l[k]!:=by
 rw [bG _ _ hk,wC]; simp [fS]
theorem fI (l:List Stmt) (k:Nat) (hk:k < l.length):dB (l.take (k + 1)) = dB (l.take k) + pD l[k]!:=by
 rw [bG _ _ hk,oY]; simp [dB]
theorem BS (l:List Stmt) (k:Nat):dB (l.take k) ≤ dB l:=by
 conv => rhs;rw [← List.take_append_drop k l]
 rw [oY]; omega
theorem AY (s:Stmt):pD s = if s.op = 9 then 2 + dB s.th + dB s.el else if s.op = 10 then 2 + dB s.th else 1:=by
 cases s;simp only [pD,Stmt.op,Stmt.th,Stmt.el]; rfl
theorem jH (b:Nat) (s:Stmt):wR b s = if s.op = 9 then [⟨9,0,0,0,[(b:Int) + 1,(b:Int) + 1 + dB s.th + 1]⟩] ++ fS (b + 1) s.th ++ [⟨10,0,0,1,[(b:Int) + 2 + dB s.th + dB s.el]⟩] ++ fS (b + 2 + dB s.th) s.el
  else if s.op = 10 then [⟨10,0,0,0,[(b : Int) + 1,(b : Int) + 2 + dB s.th]⟩] ++ fS (b + 1) s.th ++ [⟨10,0,0,1,[(b : Int)]⟩]
  else [⟨s.op,s.x,s.y,s.n,[(b : Int) + 1]⟩] := by
 cases s;simp only [wR,Stmt.op,Stmt.th,Stmt.el,Stmt.x,Stmt.y,Stmt.n]; rfl
def aD (p : Prg) : List Pnt := fS 0 p.body ++ [⟨11,0,0,0,[]⟩]
theorem j6 (p:Prg):(aD p).length = dB p.body + 1 := by simp [aD,bV]
theorem fJ {α:Type}{f:α → List AV}{e:Nat}[h:FlT f e] {xs:List α}{m:Nat}{new:List AV}{y:α}(hm:m = xs.length) (hn:new = f y):((flat f xs).drop 0).take (m * e) ++ new = flat f (xs ++ [y]):=by
 subst hm hn
 rw [List.drop_zero,List.take_of_length_le (by rw [aI f (e := e)]; exact Nat.le_refl _),← cE,nL]
theorem HU {xs:List Pnt}{m:Nat}{a b c d:Int}(hm:m = xs.length):((flat b8 xs).drop 0).take (m * 5) ++ [iv a,iv b,iv c,iv d,.imm 0 []] = flat b8 (xs ++ [⟨a,b,c,d,[]⟩]) := fJ hm rfl
theorem J3 {xs:List Pnt}{m:Nat}{a b c d e:Int}(hm:m = xs.length):((flat b8 xs).drop 0).take (m * 5) ++ [iv a,iv b,iv c,iv d,.imm 1 [iv e]] = flat b8 (xs ++ [⟨a,b,c,d,[e]⟩]) := fJ hm rfl
theorem MV {xs:List Int}{m:Nat}{a:Int}(hm:m = xs.length):((flat cI xs).drop 0).take (m * 1) ++ [iv a] = flat cI (xs ++ [a]) := fJ hm rfl
theorem MT (A B C new:List AV) (j:Nat) (hj:j + new.length ≤ B.length):gW (A ++ (B ++ C)) (A.length + j) new = A ++ (gW B j new ++ C):=by
 unfold gW
 rw [List.take_length_add_append,Nat.add_assoc,List.drop_length_add_append,List.take_append_of_le_length (by omega),List.drop_append_of_le_length hj]
 simp only [List.append_assoc]
theorem Es {α:Type}[Inhabited α] {f:α → List AV}{e:Nat}[h:FlT f e] {xs:List α}{k:Nat}(hk:k < xs.length):flat f xs = flat f (xs.take k) ++ (f xs[k]! ++ flat f (xs.drop (k + 1))):=by
 rw [← fE f (e := e) xs k hk,← dL f (e := e),List.take_append_drop]
theorem eI {α:Type}[Inhabited α] {f:α → List AV}{e:Nat}[h:FlT f e] {xs:List α}{k j:Nat}{new:List AV}{y:α}(hk:k < xs.length) (hj:j + new.length ≤ e) (hy:gW (f xs[k]!) j new = f y):gW (flat f xs) (0 + k * e + j) new = flat f (xs.set k y):=by
 have h3 : (flat f (xs.take k)).length = k * e := by rw [aI f (e := e),List.length_take]; congr 1;omega
 rw [Es (e := e) hk,Nat.zero_add,← h3,MT _ _ _ _ _ (by rw [h.pf]; exact hj),hy,List.set_eq_take_append_cons_drop,if_pos hk,← cE]
 simp only [flat,List.flatMap_cons]
theorem iS {α:Type}[Inhabited α] {f:α → List AV}{e:Nat}[h:FlT f e] {xs:List α}{k:Nat}{new:List AV}{y:α}(hk:k < xs.length) (hy:new = f y):gW (flat f xs) (0 + k * e) new = flat f (xs.set k y):=by
 subst hy
 rw [Nat.zero_add]; exact Ku f xs k y hk
theorem KZ {xs:List Pnt}{k:Nat}{a:Int}(hk:k < xs.length):gW (flat b8 xs) (0 + k * 5 + 4) [.imm 1 [iv a]] = flat b8 (xs.set k { xs[k]! with next := [a] }) := eI hk (by simp) rfl
theorem IV {xs:List Pnt}{k:Nat}{a b:Int}(hk:k < xs.length):gW (flat b8 xs) (0 + k * 5 + 4) [.imm 2 [iv a,iv b]] = flat b8 (xs.set k { xs[k]! with next := [a,b] }) := eI hk (by simp) rfl
theorem OB {xs:List Int}{k:Nat}{a:Int}(hk:k < xs.length):gW (flat cI xs) (0 + k * 1) [iv a] = flat cI (xs.set k a) := iS hk rfl
theorem y7 {xs:List Bool}{k:Nat}{a:Bool}(hk:k < xs.length):gW (flat cB xs) (0 + k * 1) [bv a] = flat cB (xs.set k a) := iS hk rfl
theorem KF (s:Stmt):s.op = 9 → pD s = 2 + dB s.th + dB s.el := by intro h;rw [AY,if_pos h]
theorem Da (s:Stmt):s.op = 10 → pD s = 2 + dB s.th := by intro h;rw [AY,if_neg (by omega),if_pos h]
theorem Ir (s:Stmt):¬ s.op = 9 → ¬ s.op = 10 → pD s = 1 := by intro h h2;rw [AY,if_neg h,if_neg h2]
theorem D4 (l:List Stmt) (k:Nat):k < l.length → dB (l.take k) + pD l[k]! ≤ dB l:=by
 intro h;have := BS l (k + 1);rw [fI l k h] at this;exact this
theorem tG {α:Type}(A:List α) (x y:α) (B:List α):(A ++ x :: B).set A.length y = A ++ y :: B:=by
 rw [List.set_append_right _ _ (Nat.le_refl _),Nat.sub_self,List.set_cons_zero]
theorem Ba {α:Type}[Inhabited α] (A:List α) (x:α) (B:List α):(A ++ x :: B)[A.length]! = x:=by
 rw [aY _ _ (by simp),List.getElem_append_right (Nat.le_refl _)]; simp
theorem A7 {xs T E:List Pnt}{p q:Pnt}{m:Nat}(hm:m = xs.length):(xs ++ [p] ++ T ++ [q] ++ E)[m]! = p:=by
 subst hm;simp only [List.append_assoc,List.singleton_append,List.cons_append,List.nil_append]; exact Ba _ _ _
theorem y4 {xs T E:List Pnt}{p q p':Pnt}{m:Nat}(hm:m = xs.length):(xs ++ [p] ++ T ++ [q] ++ E).set m p' = xs ++ [p'] ++ T ++ [q] ++ E:=by
 subst hm;simp only [List.append_assoc,List.singleton_append,List.cons_append,List.nil_append]; exact tG _ _ _ _
theorem AU {xs T E:List Pnt}{p q:Pnt}{j:Nat}(hj:j = xs.length + 1 + T.length):(xs ++ [p] ++ T ++ [q] ++ E)[j]! = q:=by
 have h : j = (xs ++ [p] ++ T).length := by simp [hj]; omega
 subst h
 rw [show xs ++ [p] ++ T ++ [q] ++ E = (xs ++ [p] ++ T) ++ q :: E by simp]; exact Ba _ _ _
theorem AZ {xs T E:List Pnt}{p q q':Pnt}{j:Nat}(hj:j = xs.length + 1 + T.length):(xs ++ [p] ++ T ++ [q] ++ E).set j q' = xs ++ [p] ++ T ++ [q'] ++ E:=by
 have h : j = (xs ++ [p] ++ T).length := by simp [hj]; omega
 subst h
 rw [show xs ++ [p] ++ T ++ [q] ++ E = (xs ++ [p] ++ T) ++ q :: E by simp,tG]; simp
theorem Du {xs T:List Pnt}{p q:Pnt}{m:Nat}(hm:m = xs.length):(xs ++ [p] ++ T ++ [q])[m]! = p:=by
 subst hm;simp only [List.append_assoc,List.singleton_append,List.cons_append,List.nil_append]; exact Ba _ _ _
theorem Dj {xs T:List Pnt}{p q p':Pnt}{m:Nat}(hm:m = xs.length):(xs ++ [p] ++ T ++ [q]).set m p' = xs ++ [p'] ++ T ++ [q]:=by
 subst hm;simp only [List.append_assoc,List.singleton_append,List.cons_append,List.nil_append]; exact tG _ _ _ _
structure WG (ts : List Int) (pts : List Pnt) : Prop where
 tl : ts.length ≤ 6
 ty : ∀ v,v < ts.length → 1 ≤ ts[v]! ∧ ts[v]! ≤ 4
 pl : pts.length ≤ 61
 p0 : 0 < pts.length
 nx : ∀ i,i < pts.length → ∀ k ∈ pts[i]!.next,0 ≤ k ∧ k < pts.length
 nl : ∀ i,i < pts.length → pts[i]!.next.length ≤ 2
 op : ∀ i,i < pts.length → 1 ≤ pts[i]!.op ∧ pts[i]!.op ≤ 11
 x : ∀ i,i < pts.length → 0 ≤ pts[i]!.x ∧ (pts[i]!.op ≤ 8 → pts[i]!.x < ts.length)
 y : ∀ i,i < pts.length → 0 ≤ pts[i]!.y ∧ (3 ≤ pts[i]!.op → pts[i]!.op ≤ 7 → pts[i]!.y < ts.length)
def Pr (nv b e : Nat) (x : Pnt) : Prop := (∀ k ∈ x.next,0 ≤ k ∧ k < (e : Int)) ∧ x.next.length ≤ 2 ∧ 1 ≤ x.op ∧ x.op ≤ 11 ∧ 0 ≤ x.x ∧ (x.op ≤ 8 → x.x < (nv : Int)) ∧ 0 ≤ x.y ∧ (3 ≤ x.op → x.op ≤ 7 → x.y < (nv : Int))
theorem Dw {ts:List Int}(ht:bW ts = true){s:Stmt}(h:c6 ts s = true):1 ≤ s.op ∧ s.op ≤ 8 ∧ 0 ≤ s.x ∧ s.x < ts.length ∧ 0 ≤ s.y ∧ (3 ≤ s.op → s.op ≤ 7 → s.y < ts.length):=by
 have hx := l8 ht s.x
 have hy := l8 ht s.y
 have bx := jQ ht s.x
 have by' := jQ ht s.y
 unfold c6 at h
 dsimp only at h
 repeat' split at h
 all_goals first
  | (simp only [decide_eq_true_eq] at h;omega)
  | (cases h;done)
mutual
theorem Po {ts:List Int}(ht:bW ts = true):∀ (s:Stmt) (d b e:Nat),sV ts d s = true → b + pD s < e → ∀ x ∈ wR b s,Pr ts.length b e x
 | .mk op x y n th el, d, b, e, h, hb => by
  simp only [sV] at h
  split at h
  ·rename_i hop
   simp only [Bool.and_eq_true] at h
   have hs := Dw ht h.2
   simp only [Stmt.op,Stmt.x,Stmt.y] at hs
   simp only [pD,hop.1,hop.2,if_false] at hb
   simp only [wR,hop.1,hop.2,if_false,List.mem_singleton]
   rintro z rfl
   refine ⟨?_,by simp,hs.1,by show op ≤ 11;omega,hs.2.2.1,fun _ => hs.2.2.2.1,hs.2.2.2.2.1,hs.2.2.2.2.2⟩
   simp only [List.mem_singleton]; rintro k rfl;omega
  ·rename_i hop
   cases d with
   | zero => cases h
   | succ d =>
    simp only [Bool.and_eq_true,decide_eq_true_eq] at h
    obtain ⟨⟨⟨_,_⟩,h1⟩,h2⟩ := h
    by_cases h9 : op = 9
    ·subst h9
     simp only [pD,if_true] at hb
     simp only [wR,if_true,List.mem_append,List.mem_singleton]
     rintro z (((rfl|hz)|rfl)|hz)
     ·refine ⟨?_, by simp, by simp, by simp, by simp, by simp, by simp, by simp⟩
      simp only [List.mem_cons,List.not_mem_nil,or_false]; rintro k (rfl|rfl) <;> omega
     ·exact vJ ht th d (b + 1) e h1 (by omega) z hz
     ·refine ⟨?_, by simp, by simp, by simp, by simp, by simp, by simp, by simp⟩
      simp only [List.mem_singleton]; rintro k rfl;omega
     ·exact vJ ht el d (b + 2 + dB th) e h2 (by omega) z hz
    ·have h10 : op = 10 := by omega
     subst h10
     simp only [pD,if_true,show ((10 : Int) = 9) = False by simp,if_false] at hb
     simp only [wR,if_true,show ((10 : Int) = 9) = False by simp,if_false,List.mem_append,List.mem_singleton]
     rintro z ((rfl|hz)|rfl)
     ·refine ⟨?_, by simp, by simp, by simp, by simp, by simp, by simp, by simp⟩
      simp only [List.mem_cons,List.not_mem_nil,or_false]; rintro k (rfl|rfl) <;> omega
     ·exact vJ ht th d (b + 1) e h1 (by omega) z hz
     ·refine ⟨?_, by simp, by simp, by simp, by simp, by simp, by simp, by simp⟩
      simp only [List.mem_singleton]; rintro k rfl;omega
theorem vJ {ts:List Int}(ht:bW ts = true):∀ (l:List Stmt) (d b e:Nat),okL ts d l = true → b + dB l < e → ∀ x ∈ fS b l,Pr ts.length b e x
 | [],d,b,e,h,hb => by simp [fS]
 | s :: l, d, b, e, h, hb => by
  simp only [okL,Bool.and_eq_true] at h
  simp only [dB] at hb
  simp only [fS,List.mem_append]
  rintro x (hx|hx)
  ·exact Po ht s d b e h.1 (by omega) x hx
  ·exact vJ ht l d (b + pD s) e h.2 (by omega) x hx
end
theorem WG.of_valid {p:Prg}(h:bE p = true):WG p.types (aD p):=by
 unfold bE at h
 simp only [Bool.and_eq_true,decide_eq_true_eq] at h
 obtain ⟨⟨ht,hl⟩,hc⟩ := h
 have hn := lP p.body
 have hlen := j6 p
 have key : ∀ i, i < (aD p).length → Pr p.types.length 0 (aD p).length (aD p)[i]! := by
  intro i hi
  have hm := aS _ i hi
  unfold aD at hm
  rw [List.mem_append,List.mem_singleton] at hm
  rcases hm with hm|hm
  ·exact vJ ht p.body 4 0 _ hl (by omega) _ hm
  ·unfold aD;rw [hm]; exact ⟨by simp,by simp,by simp,by simp,by simp,by simp,by simp,by simp⟩
 exact ⟨iQ ht, lW ht, by omega, by omega, fun i hi => (key i hi).1, fun i hi => (key i hi).2.1, fun i hi => ⟨(key i hi).2.2.1, (key i hi).2.2.2.1⟩,
  fun i hi => ⟨(key i hi).2.2.2.2.1,(key i hi).2.2.2.2.2.1⟩,fun i hi => ⟨(key i hi).2.2.2.2.2.2.1,(key i hi).2.2.2.2.2.2.2⟩⟩
inductive Clo {α : Type} (S : α → Prop) (R : α → α → Prop) : α → Prop
 | base {a : α} (h : S a) : Clo S R a
 | step {a b : α} (h : Clo S R a) (r : R a b) : Clo S R b
theorem Clo.sub {α:Type}{S:α → Prop}{R:α → α → Prop}{T:α → Prop}(h1:∀ a,S a → T a) (h2:∀ a b,T a → R a b → T b):∀ a,Clo S R a → T a:=by
 intro a h
 induction h with
 | base h => exact h1 _ h
 | step _ r ih => exact h2 _ _ ih r
def cO (pts : List Pnt) (i k : Nat) : Prop := i < pts.length ∧ (k : Int) ∈ pts[i]!.next
def Mb (ts : List Int) (pts : List Pnt) (a : Nat × Nat) : Prop := Clo (fun a => ∃ i,cO pts i a.1 ∧ aQ pts[i]! = a.2) (fun a b => b.2 = a.2 ∧ cO pts a.1 b.1 ∧ aV ts pts[a.1]! a.2 ≠ 2) a
def Na (ts : List Int) (pts : List Pnt) (a : Nat × Nat) : Prop := Clo (fun a => a.2 < ts.length ∧ (a.1 = 0 ∨ ∃ i,cO pts i a.1 ∧ aV ts pts[i]! a.2 = 2 ∧ aQ pts[i]! ≠ a.2)) (fun a b => b.2 = a.2 ∧ cO pts a.1 b.1 ∧ aQ pts[a.1]! ≠ a.2) a
def Nd (ts : List Int) (pts : List Pnt) (a : Nat × Nat) : Prop := Clo (fun a => a.1 < pts.length ∧ a.2 < ts.length ∧ aV ts pts[a.1]! a.2 ≠ 0) (fun a b => b.2 = a.2 ∧ cO pts b.1 a.1 ∧ aQ pts[b.1]! ≠ a.2) a
def Lv (ts : List Int) (pts : List Pnt) (i v : Nat) : Prop := ∃ k,cO pts i k ∧ Nd ts pts (k,v)
def b9 (x : Pnt) : Bool := decide (x.op = 4) || decide (x.op = 5)
def Lk (ts : List Int) (pts : List Pnt) (a : Nat × Nat × Nat) : Prop := Clo (fun a => cO pts a.2.2 a.1 ∧ b9 pts[a.2.2]! = true ∧ aQ pts[a.2.2]! = a.2.1)
 (fun a b => b.2.2 = a.2.2 ∧ cO pts a.1 b.1 ∧ ((aQ pts[a.1]! ≠ b.2.1 ∧ b.2.1 = a.2.1 ∧ aV ts pts[a.1]! a.2.1 ≠ 2) ∨
  (aQ pts[a.1]! = b.2.1 ∧ (a.2.1 : Int) = pts[a.1]!.y ∧ ((b9 pts[a.1]! = true ∧ kQ ts[a.2.1]! = true) ∨ pts[a.1]!.op = 3)))) a
def Oe (ts : List Int) (pts : List Pnt) (a : Nat × Nat) : Prop := Clo (fun a => cO pts a.2 a.1 ∧ b9 pts[a.2]! = true)
 (fun a b => b.2 = a.2 ∧ cO pts a.1 b.1 ∧ aV ts pts[a.1]! pts[a.2]!.y ≠ 2 ∧ aQ pts[a.1]! ≠ pts[a.2]!.y) a
def e8 (f : Nat → Bool) : Nat → Nat
 | 0 => 0
 | n + 1 => e8 f n ||| (if f n then 2 ^ n else 0)
theorem e5 (f:Nat → Bool):∀ (n i:Nat),(e8 f n).testBit i = (decide (i < n) && f i)
 | 0,i => by simp [e8]
 | n + 1, i => by
  rw [e8,Nat.testBit_or,e5 f n i]
  by_cases h : i = n
  ·subst h;cases hf : f i <;> simp [Nat.testBit_two_pow_self]
  ·have : ((if f n = true then 2 ^ n else 0).testBit i) = false := by
    split
    ·exact Nat.testBit_two_pow_of_ne (fun e => h e.symm)
    ·simp
   rw [this,Bool.or_false]
   congr 1
   simp only [decide_eq_decide]; omega
theorem xX (f:Nat → Bool) (n:Nat):e8 f n < 2 ^ n:=by
 apply Nat.lt_pow_two_of_testBit
 intro i hi
 rw [e5]; simp;omega
theorem b0 {f:Nat → Bool}{n:Nat}(h:n ≤ 62):Sm (e8 f n) := ⟨Nat.lt_of_lt_of_le (xX f n) (Nat.pow_le_pow_right (by decide) h)⟩
theorem jS {σ ι:Type}(stp:σ × Bool → ι → σ × Bool) (C:ι → σ → Prop) (μ:σ → Nat) (S:σ → Prop) :
  ∀ (L : List ι),(∀ s b i,i ∈ L → S s → S (stp (s,b) i).1 ∧ ((stp (s,b) i = (s,b) ∧ C i s) ∨ ((stp (s,b) i).2 = true ∧ μ (stp (s,b) i).1 < μ s))) →
  ∀ s b,S s → S (L.foldl stp (s,b)).1 ∧ ((L.foldl stp (s,b) = (s,b) ∧ ∀ i ∈ L,C i s) ∨ ((L.foldl stp (s,b)).2 = true ∧ μ (L.foldl stp (s,b)).1 < μ s))
 | [],_,s,b,hs => ⟨hs,.inl ⟨rfl,by simp⟩⟩
 | i :: L, h, s, b, hs => by
  have h1 := h s b i (List.mem_cons_self) hs
  simp only [List.foldl_cons]
  generalize stp (s,b) i = r at h1
  obtain ⟨s',b'⟩ := r
  have h2 := jS stp C μ S L (fun s b j hj => h s b j (List.mem_cons_of_mem _ hj)) s' b' h1.1
  refine ⟨h2.1,?_⟩
  rcases h1.2 with ⟨e1,c1⟩ | ⟨e1,c1⟩
  ·cases e1
   rcases h2.2 with ⟨e2,c2⟩ | ⟨e2,c2⟩
   ·exact .inl ⟨e2,fun j hj => by rcases List.mem_cons.1 hj with rfl|hj;exact c1;exact c2 j hj⟩
   ·exact .inr ⟨e2,c2⟩
  ·rcases h2.2 with ⟨e2, c2⟩ | ⟨e2, c2⟩
   ·rw [e2]; exact .inr ⟨e1,c1⟩
   ·exact .inr ⟨e2,by dsimp only at c1;omega⟩
theorem dR {σ ι:Type}[Inhabited ι] (f:σ → ι → σ) (L:List ι) (s:σ) (k:Nat) (h:k < L.length):(L.take (k + 1)).foldl f s = f ((L.take k).foldl f s) L[k]!:=by
 rw [bG _ _ h,List.foldl_append]; rfl
def fH (l : List Nat) : Nat := l.foldr (· + ·) 0
theorem pQ (g:Nat → Nat):∀ (l:List Nat) (k:Nat) (x:Nat),k < l.length → fH ((l.set k x).map g) + g l[k]! = fH (l.map g) + g x
 | a :: l,0,x,_ => by simp [fH]; omega
 | a :: l, k + 1, x, h => by
  have := pQ g l k x (by simpa using h)
  have e : (a :: l)[k + 1]! = l[k]! := by rw [aY _ _ h,aY _ _ (by simpa using h)]; rfl
  rw [e]
  simp only [List.set_cons_succ,List.map_cons,fH,List.foldr_cons] at this ⊢
  omega
abbrev aG (ts : List Int) (bd : List Stmt) (pts : List Pnt) : AV := .iptr [sl cI ts,sl aN bd,sl b8 pts]
def wZ (t : Int) : Bool := decide (t = 2) || decide (t = 4)
def wS (ts : List Int) (x : Pnt) (us : List Int) : Nat := e8 (fun v => decide (aV ts x v ∈ us)) ts.length
def jD (x : Pnt) : Nat := if 0 ≤ aQ x then 2 ^ (aQ x).toNat else 0
def iT (ts : List Int) (x : Pnt) (A : Nat) : Nat := oJ A (wS ts x [2]) ||| jD x
theorem tQ {x:Pnt}(h:aQ x < 62):Sm (jD x):=by
 unfold jD;split
 ·exact Sm.pow (by omega)
 ·infer_instance
theorem pV (ts:List Int) (x:Pnt) (v:Int):0 ≤ aV ts x v ∧ aV ts x v ≤ 3:=by
 unfold aV;grind
theorem WG.set {ts:List Int}{pts:List Pnt}(h:WG ts pts) (i:Nat) (hi:i < pts.length):aQ pts[i]! < ts.length ∧ (0 ≤ aQ pts[i]! ∨ aQ pts[i]! = -1):=by
 have := h.x i hi
 have := h.tl
 unfold aQ;split <;> omega
theorem sB (f:Nat → Bool) (k:Nat) (h:f k = true):e8 f k ||| 2 ^ k = e8 f (k + 1) := by rw [e8,if_pos h]
theorem mY (f:Nat → Bool) (k:Nat) (h:f k = false):e8 f k = e8 f (k + 1) := by rw [e8,if_neg (by simp [h]),Nat.or_zero]
theorem lB {i:Nat}{hs:List (Nat × Option (List AV))}{id:Nat}{cs:List AV}(h:aT ((i,none) :: hs) id = some cs):aT hs id = some cs ∧ id ≠ i:=by
 rw [cP] at h
 split at h
 ·cases h
 ·rename_i e;exact ⟨h,e⟩
theorem Le.frzD {ts:List (Nat × AV)}{hs:List (Nat × Option (List AV))}{n:Nat}{z0:Lo}{d i m e:Nat}{cs:List AV}(hd:lk ts d = some (.own i 0 m e)) (hi:aT hs i = some cs) :
  Le ⟨ts,hs,n,z0⟩ ⟨(d,.imm m cs) :: ts,(i,none) :: hs,n,z0⟩ := by
 rintro C a w ⟨h0,ι,g,gh⟩
 obtain ⟨gh',car⟩ := gh.less (F' := Fn n z0) (H' := aT ((i,none) :: hs)) (fun id c h => (lB h).1) (fun _ h => h)
 refine ⟨h0,ι,⟨g.df,g.sz,fun t av ht => ?_⟩,gh'⟩
 rw [show lk (⟨(d,.imm m cs) :: ts,(i,none) :: hs,n,z0⟩ : AS).ts t = lk ((d,.imm m cs) :: ts) t from rfl,lO] at ht
 split at ht
 ·rename_i et
  subst et
  cases ht
  obtain ⟨y,hy,hr⟩ := g.tm t _ hd
  refine ⟨y,hy,?_⟩
  simp only [Rd] at hr ⊢
  rcases hr with ⟨_,h2,a',h3⟩ | ⟨b,β,c,h1,h2,h3,h4⟩
  ·subst h2;exact ⟨a',0,h3,.inl rfl⟩
  ·refine ⟨_, c, h2, ?_⟩
   rcases Nat.eq_zero_or_pos m with h5|h5
   ·exact .inl h5
   ·refine .inr ⟨b, β + 0, h3, rfl, ?_⟩
    rcases gh.obj i cs hi with ⟨q1,q2⟩ | ⟨b',β',arr,e',q1,q2,q3,q4,q5,q6⟩
    ·rw [h1] at q1;cases q1
    ·rw [h1] at q1; cases q1
     refine .inr ⟨?_,RdC.carryB car _ _ _ (fun o x hx => hx) q4⟩
     rintro (h | ⟨id',cs',β',r1,r2⟩)
     ·exact q5 h
     ·exact (lB r1).2 (gh.sep _ _ _ _ _ _ _ (lB r1).1 hi r2 h1)
 ·obtain ⟨y, hy, hr⟩ := g.tm t av ht
  exact ⟨y,hy,Rd.carry car _ _ hr⟩
theorem Le.frzP {ts:List (Nat × AV)}{hs:List (Nat × Option (List AV))}{n:Nat}{z0:Lo}{d i:Nat}{cs:List AV}(hd:lk ts d = some (.optr i 0)) (hi:aT hs i = some cs) :
  Le ⟨ts,hs,n,z0⟩ ⟨(d,.iptr cs) :: ts,(i,none) :: hs,n,z0⟩ := by
 rintro C a w ⟨h0,ι,g,gh⟩
 obtain ⟨gh',car⟩ := gh.less (F' := Fn n z0) (H' := aT ((i,none) :: hs)) (fun id c h => (lB h).1) (fun _ h => h)
 refine ⟨h0,ι,⟨g.df,g.sz,fun t av ht => ?_⟩,gh'⟩
 rw [show lk (⟨(d,.iptr cs) :: ts,(i,none) :: hs,n,z0⟩ : AS).ts t = lk ((d,.iptr cs) :: ts) t from rfl,lO] at ht
 split at ht
 ·rename_i et
  subst et
  cases ht
  obtain ⟨y,hy,hr⟩ := g.tm t _ hd
  refine ⟨y,hy,?_⟩
  simp only [Rd] at hr ⊢
  obtain ⟨b,β,h1,h2⟩ := hr
  refine ⟨b,β + 0,h2,?_⟩
  rcases gh.obj i cs hi with ⟨q1,q2⟩ | ⟨b',β',arr,e',q1,q2,q3,q4,q5,q6⟩
  ·rw [h1] at q1;cases q1
  ·rw [h1] at q1; cases q1
   refine .inr ⟨?_,RdC.carryB car _ _ _ (fun o x hx => hx) q4⟩
   rintro (h | ⟨id',cs',β',r1,r2⟩)
   ·exact q5 h
   ·exact (lB r1).2 (gh.sep _ _ _ _ _ _ _ (lB r1).1 hi r2 h1)
 ·obtain ⟨y, hy, hr⟩ := g.tm t av ht
  exact ⟨y,hy,Rd.carry car _ _ hr⟩
theorem Le.nilOwn {ts:List (Nat × AV)}{hs:List (Nat × Option (List AV))}{n:Nat}{z0:Lo}{d:Nat}(e:Nat) (hd:lk ts d = some (.v (.slice none 0 0))) (hn:n < a6) :
  Le ⟨ts,hs,n,z0⟩ ⟨(d,.own n 0 0 e) :: ts,(n,some []) :: hs,n + 1,z0⟩ := by
 rintro C a w ⟨h0,ι,g,gh⟩
 have hf : ι n = none := gh.fresh n ⟨Nat.le_refl _,.inl hn⟩
 let ι' : Pl := dU ι n (some none)
 have hne : ∀ id p, ι id = some p → ι' id = some p := by
  intro id p h
  have : id ≠ n := by rintro rfl;rw [hf] at h;cases h
  simp only [ι',bF _ _ this,h]
 have hback : ∀ id b β, ι' id = some (some (b, β)) → id ≠ n ∧ ι id = some (some (b, β)) := by
  intro id b β h
  by_cases q : id = n
  ·subst q;simp only [ι',upd_same] at h;cases h
  ·simp only [ι',bF _ _ q] at h;exact ⟨q,h⟩
 have hH : ∀ id cs, id ≠ n → aT ((n, some []) :: hs) id = some cs → aT hs id = some cs := by
  intro id cs q h;rw [cP,if_neg q] at h;exact h
 have car : Carry w (aL C.X ι (aT hs)) ι w (aL C.X ι' (aT ((n, some []) :: hs))) ι' := by
  refine ⟨fun b o x h1 h2 => ⟨?_,h2⟩,hne,fun _ => Nat.le_refl _⟩
  rintro (h | ⟨id,cs,β,q1,q2⟩)
  ·exact h1 (.inl h)
  ·obtain ⟨r1, r2⟩ := hback _ _ _ q2
   exact h1 (.inr ⟨id,cs,β,hH _ _ r1 q1,r2⟩)
 refine ⟨h0,ι',⟨g.df,g.sz,fun t av ht => ?_⟩,⟨fun id cs h => ?_,fun id id' cs cs' b β β' q1 q2 q3 q4 => ?_,gh.fr,fun id p h => hne _ _ (gh.ex _ _ h),fun id h => ?_⟩⟩
 ·rw [show lk (⟨(d, .own n 0 0 e) :: ts, (n, some []) :: hs, n + 1, z0⟩ : AS).ts t = lk ((d, .own n 0 0 e) :: ts) t from rfl, lO] at ht
  split at ht
  ·rename_i et
   subst et
   cases ht
   obtain ⟨y,hy,hr⟩ := g.tm t _ hd
   refine ⟨y,hy,?_⟩
   simp only [Rd] at hr ⊢
   exact .inl ⟨⟨none,by simp only [ι',upd_same]⟩,trivial,none,hr⟩
  ·obtain ⟨y, hy, hr⟩ := g.tm t av ht
   exact ⟨y,hy,Rd.carry car _ _ hr⟩
 ·by_cases q : id = n
  ·subst q
   simp only [cP,if_true,Option.some.injEq] at h
   exact .inl ⟨by simp only [ι',upd_same],h.symm⟩
  ·rcases gh.obj id cs (hH _ _ q h) with ⟨r1, r2⟩ | ⟨b, β, arr, e', r1, r2, r3, r4, r5, r6⟩
   ·exact .inl ⟨hne _ _ r1,r2⟩
   ·exact .inr ⟨b,β,arr,e',hne _ _ r1,r2,r3,RdC.carryB car _ _ _ (fun o x hx => hx) r4,r5,r6⟩
 ·obtain ⟨r1, r2⟩ := hback _ _ _ q3
  obtain ⟨r3,r4⟩ := hback _ _ _ q4
  exact gh.sep _ _ _ _ _ _ _ (hH _ _ r1 q1) (hH _ _ r3 q2) r2 r4
 ·have h1 : n + 1 ≤ id := h.1
  have h2 : id < a6 ∨ z0.fb ≤ id := h.2
  have q : id ≠ n := by omega
  simp only [ι',bF _ _ q]
  exact gh.fresh id ⟨by show n ≤ id;omega,h2⟩
section
theorem cX {l:List Oper}{s s':AS}(h:RW P N all Q .txt l s') (k:Le s s'):RW P N all Q .txt l s := fun C a w hN g => h C a w hN (k C a w g)
theorem Le.trans {s s' s'':AS}(h:Le s s') (k:Le s' s''):Le s s'' := fun C a w g => k C a w (h C a w g)
theorem Le.frzTop {ts:List (Nat × AV)}{hs:List (Nat × Option (List AV))}{n:Nat}{z0:Lo}{d i m e:Nat}{cs:List AV} :
  Le ⟨(d,.own i 0 m e) :: ts,(i,some cs) :: hs,n,z0⟩ ⟨(d,.imm m cs) :: ts,(i,none) :: hs,n,z0⟩ := by
 refine (Le.frzD (d := d) (i := i) (m := m) (e := e) (cs := cs) (by simp [lO]) (by simp [cP])).trans ?_
 refine Le.of (fun t av h => ?_) (fun j c h => ?_) (Nat.le_refl _) rfl
 ·show lk ((d, .imm m cs) :: (d, .own i 0 m e) :: ts) t = _
  have h' : lk ((d,.imm m cs) :: ts) t = some av := h
  simp only [lO] at h' ⊢
  split
  ·rename_i q;rw [if_pos q] at h'; exact h'
  ·rename_i q;rw [if_neg q] at h'; exact h'
 ·show aT ((i, none) :: (i, some cs) :: hs) j = _
  have h' : aT ((i,none) :: hs) j = some c := h
  simp only [cP] at h' ⊢
  split
  ·rename_i q;rw [if_pos q] at h'; exact h'
  ·rename_i q;rw [if_neg q] at h'; exact h'
theorem aJ {t el len e:Nat}{parts:Array (Nat × Operand)}{zs:List Value}{l:List (Nat × AV)}{cs:List AV}[ht:SlT P t el] [he:SzT P el e] [hz:ZrT P el zs] (hze:zs.length = e) (hsm:Nat.ble (len * e) 16777216 = true)
  (hl : evs (lk ts) parts.toList = some l) (hfl : jB (fun i => some (i * e,e)) ((List.replicate len (zs.map .v)).flatten) l = some cs) (hM : Nat.blt n a6 = true) (hN : Nat.blt d N = true) (kk : RW P N all Q .txt rest ⟨(d,.imm len cs) :: ts,(n,none) :: hs,n + 1,z0⟩) :
  RW P N all Q .txt (⟨some d,.buildSlice t len parts,ty,pos,af,none⟩ :: rest) ⟨ts,hs,n,z0⟩ :=
 oK hze hsm hl hfl hM hN (md' := .txt) (cX kk Le.frzTop)
end
theorem Le.mv {ts:List (Nat × AV)}{hs:List (Nat × Option (List AV))}{n:Nat}{z0:Lo}{d i o m e:Nat}{cs:List AV}(hd:lk ts d = some (.own i o m e)) (hi:aT hs i = some cs) (hn:n < a6) :
  Le ⟨ts,hs,n,z0⟩ ⟨(d,.own n o m e) :: ts,(n,some cs) :: (i,none) :: hs,n + 1,z0⟩ := by
 rintro C a w ⟨h0,ι,g,gh⟩
 have hf : ι n = none := gh.fresh n ⟨Nat.le_refl _,.inl hn⟩
 have hin : ∃ p, ι i = some p := by
  rcases gh.obj i cs hi with ⟨r1,_⟩ | ⟨b,β,_,_,r1,_⟩
  ·exact ⟨_,r1⟩
  ·exact ⟨_,r1⟩
 obtain ⟨pi,hpi⟩ := hin
 have hni : n ≠ i := by rintro rfl;rw [hf] at hpi;cases hpi
 let ι' : Pl := dU ι n (ι i)
 have hnn : ι' n = ι i := by simp only [ι',upd_same]
 have hne' : ∀ id,id ≠ n → ι' id = ι id := fun id h => by simp only [ι',bF _ _ h]
 have hne : ∀ id p, ι id = some p → ι' id = some p := by
  intro id p h
  have : id ≠ n := by rintro rfl;rw [hf] at h;cases h
  rw [hne' _ this,h]
 -- the objects of the new state, under their old ids
 let σ : Nat → Nat := fun id => if id = n then i else id
 have hσ : ∀ id c, aT ((n, some cs) :: (i, none) :: hs) id = some c → aT hs (σ id) = some c ∧ ι' id = ι (σ id) ∧ (id = n ∨ id ≠ i) := by
  intro id c h
  simp only [cP] at h
  by_cases q : id = n
  ·subst q
   rw [if_pos rfl] at h;cases h
   exact ⟨by simp only [σ,if_true]; exact hi,by simp only [σ,if_true]; exact hnn,.inl rfl⟩
  ·rw [if_neg q] at h
   by_cases q2 : id = i
   ·rw [if_pos q2] at h;cases h
   ·rw [if_neg q2] at h
    exact ⟨by simp only [σ,if_neg q]; exact h,by simp only [σ,if_neg q]; exact hne' _ q,.inr q2⟩
 have car : Carry w (aL C.X ι (aT hs)) ι w (aL C.X ι' (aT ((n, some cs) :: (i, none) :: hs))) ι' := by
  refine ⟨fun b o x h1 h2 => ⟨?_,h2⟩,hne,fun _ => Nat.le_refl _⟩
  rintro (h | ⟨id,c,β,q1,q2⟩)
  ·exact h1 (.inl h)
  ·obtain ⟨r1, r2, _⟩ := hσ id c q1
   exact h1 (.inr ⟨σ id,c,β,r1,by rw [← r2]; exact q2⟩)
 refine ⟨h0,ι',⟨g.df,g.sz,fun t av ht => ?_⟩,⟨fun id c h => ?_,fun id id' c c' b β β' q1 q2 q3 q4 => ?_,gh.fr,fun id p h => hne _ _ (gh.ex _ _ h),fun id h => ?_⟩⟩
 ·have ht' : lk ((d, .own n o m e) :: ts) t = some av := ht
  rw [lO] at ht'
  split at ht'
  ·rename_i et
   subst et
   cases ht'
   obtain ⟨y,hy,hr⟩ := g.tm t _ hd
   refine ⟨y,hy,?_⟩
   have hr' := Rd.carry car _ _ hr
   simp only [Rd,hnn] at hr' ⊢
   rw [hne' i (fun h => hni h.symm)] at hr'
   exact hr'
  ·obtain ⟨y, hy, hr⟩ := g.tm t av ht'
   exact ⟨y,hy,Rd.carry car _ _ hr⟩
 ·obtain ⟨r1, r2, _⟩ := hσ id c h
  rcases gh.obj _ c r1 with ⟨s1,s2⟩ | ⟨b,β,arr,e',s1,s2,s3,s4,s5,s6⟩
  ·exact .inl ⟨by rw [r2]; exact s1,s2⟩
  ·exact .inr ⟨b,β,arr,e',by rw [r2]; exact s1,s2,s3,RdC.carryB car _ _ _ (fun o x hx => hx) s4,s5,s6⟩
 ·obtain ⟨r1, r2, r3⟩ := hσ id c q1
  obtain ⟨t1,t2,t3⟩ := hσ id' c' q2
  have := gh.sep _ _ _ _ _ _ _ r1 t1 (by rw [← r2]; exact q3) (by rw [← t2]; exact q4)
  simp only [σ] at this
  split at this <;> split at this
  ·omega
  ·rename_i u1 u2; rcases t3 with t3 | t3
   ·exact absurd t3 u2
   ·exact absurd this.symm t3
  ·rename_i u1 u2; rcases r3 with r3 | r3
   ·exact absurd r3 u1
   ·exact absurd this r3
  ·exact this
 ·have h1 : n + 1 ≤ id := h.1
  have h2 : id < a6 ∨ z0.fb ≤ id := h.2
  rw [hne' id (by omega)]
  exact gh.fresh id ⟨by show n ≤ id;omega,h2⟩
theorem Le.slot {ts:List (Nat × AV)}{hs:List (Nat × Option (List AV))}{n:Nat}{z0:Lo}{d:Nat}{v v':AV}(hd:lk ts d = some v) (h:∀ (w:World) (bad:Nat → Prop) (ι:Pl) (y:Value),Rd w bad ι v y → Rd w bad ι v' y) :
  Le ⟨ts,hs,n,z0⟩ ⟨(d,v') :: ts,hs,n,z0⟩ := by
 rintro C a w ⟨h0,ι,g,gh⟩
 refine ⟨h0,ι,⟨g.df,g.sz,fun t av ht => ?_⟩,gh⟩
 have ht' : lk ((d,v') :: ts) t = some av := ht
 rw [lO] at ht'
 split at ht'
 ·rename_i et
  subst et
  cases ht'
  obtain ⟨y,hy,hr⟩ := g.tm t _ hd
  exact ⟨y,hy,h _ _ _ _ hr⟩
 ·exact g.tm t av ht'
theorem Le.nilImm {ts:List (Nat × AV)}{hs:List (Nat × Option (List AV))}{n:Nat}{z0:Lo}{d:Nat}(hd:lk ts d = some (.v (.slice none 0 0))):Le ⟨ts,hs,n,z0⟩ ⟨(d,.imm 0 []) :: ts,hs,n,z0⟩ :=
 Le.slot hd fun w bad ι y h => nK (av := .v (.slice none 0 0)) h
theorem Hs {α:Type}{f:α → List AV}{hs:List (Nat × Option (List AV))}{i:Nat}(h:aT hs i = some []):aT hs i = some (flat f []) := h
abbrev oW (a s : Nat) : Nat := a ||| s
abbrev Qb (a s : Nat) : Nat := a &&& s
def l7 (op : Nat → Nat → Nat) (s0 : Nat) (s : List Nat × Bool) (k : Nat) : List Nat × Bool :=
 if op s.1[k]! s0 ≠ s.1[k]! then (s.1.set k (op s.1[k]! s0),true) else s
def wQ (pts : List Pnt) (i : Nat) : List Nat := pts[i]!.next.map (·.toNat)
def Bc (op : Nat → Nat → Nat) (F : Nat → Nat → Nat) (pts : List Pnt) (s : List Nat × Bool) (i : Nat) : List Nat × Bool := (wQ pts i).foldl (l7 op (F i s.1[i]!)) s
def AH (op : Nat → Nat → Nat) (F : Nat → Nat → Nat) (pts : List Pnt) (s : List Nat × Bool) : List Nat × Bool := (List.range pts.length).foldl (Bc op F pts) s
theorem dF {α:Type}[Inhabited α] (l:List α) (k i:Nat) (x:α) (h:k < l.length):(l.set k x)[i]! = if i = k then x else l[i]!:=by
 by_cases e : i = k
 ·subst e;rw [if_pos rfl,aY _ _ (by simpa using h),List.getElem_set_self]
 ·rw [if_neg e]
  simp only [List.getElem!_eq_getElem?_getD,List.getElem?_set_ne (Ne.symm e)]
theorem qN {ts:List Int}{pts:List Pnt}(w:WG ts pts){i k:Nat}(hi:i < pts.length):k ∈ wQ pts i ↔ cO pts i k:=by
 unfold wQ cO
 rw [List.mem_map]
 constructor
 ·rintro ⟨z, hz, rfl⟩
  have := w.nx i hi z hz
  exact ⟨hi,by rw [Int.toNat_of_nonneg this.1]; exact hz⟩
 ·rintro ⟨_,h⟩; exact ⟨_,h,rfl⟩
theorem cZ {ts:List Int}{pts:List Pnt}(w:WG ts pts){i k:Nat}(h:cO pts i k):k < pts.length:=by
 have := w.nx i h.1 _ h.2;omega
structure Flow (op : Nat → Nat → Nat) (F : Nat → Nat → Nat) (pts : List Pnt) (g : Nat → Nat) (Pp : Nat → Nat → Prop) : Prop where
 snd : ∀ i k A B,cO pts i k → Pp i A → Pp k B → Pp k (op B (F i A))
 dec : ∀ i k A B,cO pts i k → Pp i A → Pp k B → op B (F i A) ≠ B → g (op B (F i A)) < g B
def SG (pts : List Pnt) (Pp : Nat → Nat → Prop) (l : List Nat) : Prop := l.length = pts.length ∧ ∀ i,i < pts.length → Pp i l[i]!
theorem Jf {op:Nat → Nat → Nat}{F:Nat → Nat → Nat}{pts:List Pnt}{g:Nat → Nat}{Pp:Nat → Nat → Prop}(f:Flow op F pts g Pp){i k A:Nat}(hA:Pp i A) (e:cO pts i k) (hk:k < pts.length) (s:List Nat) (b:Bool) (h:SG pts Pp s) :
  SG pts Pp (l7 op (F i A) (s,b) k).1 ∧ ((l7 op (F i A) (s,b) k = (s,b) ∧ op s[k]! (F i A) = s[k]!) ∨ ((l7 op (F i A) (s,b) k).2 = true ∧ fH ((l7 op (F i A) (s,b) k).1.map g) < fH (s.map g))) := by
 unfold l7
 dsimp only
 have hks : k < s.length := by rw [h.1]; exact hk
 by_cases hc : op s[k]! (F i A) ≠ s[k]!
 ·rw [if_pos hc]
  refine ⟨⟨by simp [h.1],fun j hj => ?_⟩,.inr ⟨rfl,?_⟩⟩
  ·dsimp only
   rw [dF _ _ _ _ hks]
   split
   ·rename_i q;subst q;exact f.snd _ _ _ _ e hA (h.2 j hj)
   ·exact h.2 j hj
  ·have := pQ g s k (op s[k]! (F i A)) hks
   have h2 := f.dec i k A s[k]! e hA (h.2 k hk) hc
   dsimp only;omega
 ·rw [if_neg hc]
  exact ⟨h,.inl ⟨rfl,by simpa using hc⟩⟩
theorem J9 {ts:List Int}{op:Nat → Nat → Nat}{F:Nat → Nat → Nat}{pts:List Pnt}{g:Nat → Nat}{Pp:Nat → Nat → Prop}(w:WG ts pts) (f:Flow op F pts g Pp) (s:List Nat) (b:Bool) (i:Nat) (hi:i < pts.length) (h:SG pts Pp s) :
  SG pts Pp (Bc op F pts (s,b) i).1 ∧ ((Bc op F pts (s,b) i = (s,b) ∧ ∀ k,cO pts i k → op s[k]! (F i s[i]!) = s[k]!) ∨ ((Bc op F pts (s,b) i).2 = true ∧ fH ((Bc op F pts (s,b) i).1.map g) < fH (s.map g))) := by
 have hA := h.2 i hi
 have := jS (l7 op (F i s[i]!)) (fun k l => op l[k]! (F i s[i]!) = l[k]!) (fun l => fH (l.map g)) (SG pts Pp) (wQ pts i)
  (fun s' b' k hk hs => by
   have e := (qN w hi).1 hk
   exact Jf f hA e (cZ w e) s' b' hs) s b h
 refine ⟨this.1,?_⟩
 rcases this.2 with ⟨e1,e2⟩|h2
 ·exact .inl ⟨e1,fun k e => e2 k ((qN w hi).2 e)⟩
 ·exact .inr h2
def l4 (op : Nat → Nat → Nat) (F : Nat → Nat → Nat) (pts : List Pnt) (s : List Nat) : Prop := ∀ i k,cO pts i k → op s[k]! (F i s[i]!) = s[k]!
theorem vL {ts:List Int}{op:Nat → Nat → Nat}{F:Nat → Nat → Nat}{pts:List Pnt}{g:Nat → Nat}{Pp:Nat → Nat → Prop}(w:WG ts pts) (f:Flow op F pts g Pp) (s:List Nat) (b:Bool) (h:SG pts Pp s) :
  SG pts Pp (AH op F pts (s,b)).1 ∧ ((AH op F pts (s,b) = (s,b) ∧ l4 op F pts s) ∨ ((AH op F pts (s,b)).2 = true ∧ fH ((AH op F pts (s,b)).1.map g) < fH (s.map g))) := by
 have := jS (Bc op F pts) (fun i l => ∀ k, cO pts i k → op l[k]! (F i l[i]!) = l[k]!) (fun l => fH (l.map g)) (SG pts Pp) (List.range pts.length)
  (fun s' b' i hi hs => J9 w f s' b' i (List.mem_range.1 hi) hs) s b h
 refine ⟨this.1,?_⟩
 rcases this.2 with ⟨e1,e2⟩|h2
 ·exact .inl ⟨e1,fun i k e => e2 i (List.mem_range.2 e.1) k e⟩
 ·exact .inr h2
theorem mW {a b:Nat}(h:a ||| b ≠ a):a < a ||| b:=by
 have := @Nat.left_le_or a b;omega
theorem AP {a b:Nat}(h:a &&& b ≠ a):a &&& b < a:=by
 have := @Nat.and_le_left a b;omega
theorem fX {a b:Nat}:a ||| b = a ↔ ∀ v,b.testBit v = true → a.testBit v = true:=by
 constructor
 ·intro h v hv;rw [← h,Nat.testBit_or,hv]; simp
 ·intro h
  apply Nat.eq_of_testBit_eq;intro v
  rw [Nat.testBit_or]
  cases hb : b.testBit v with
  | false => simp
  | true => rw [h v hb]; rfl
theorem tX {a b:Nat}:a &&& b = a ↔ ∀ v,a.testBit v = true → b.testBit v = true:=by
 constructor
 ·intro h v hv;rw [← h,Nat.testBit_and,Bool.and_eq_true] at hv;exact hv.2
 ·intro h
  apply Nat.eq_of_testBit_eq;intro v
  rw [Nat.testBit_and]
  cases ha : a.testBit v with
  | false => simp
  | true => rw [h v ha]; rfl
theorem cT {a n:Nat}(h:a < 2 ^ n){v:Nat}(hv:a.testBit v = true):v < n:=by
 rcases Nat.lt_or_ge v n with h1|h1
 ·exact h1
 ·rw [Nat.testBit_lt_two_pow (Nat.lt_of_lt_of_le h (Nat.pow_le_pow_right (by decide) h1))] at hv;cases hv
theorem BY {ts:List Int}{pts:List Pnt}(w:WG ts pts){i:Nat}(hi:i < pts.length){v:Nat}(h:aV ts pts[i]! v ≠ 0):v < ts.length:=by
 have h1 := w.x i hi
 have h2 := w.y i hi
 unfold aV at h
 grind
theorem cC {ts:List Int}{x:Pnt}{us:List Int}{v:Nat}:(wS ts x us).testBit v = (decide (v < ts.length) && decide (aV ts x v ∈ us)) := e5 _ _ _
theorem gT {x:Pnt}{v:Nat}(h:aQ x < 62):(jD x).testBit v = decide (aQ x = (v:Int)):=by
 unfold jD
 split
 ·rename_i h0
  by_cases e : v = (aQ x).toNat
  ·subst e;rw [Nat.testBit_two_pow_self]; simp;omega
  ·rw [Nat.testBit_two_pow_of_ne (fun h => e h.symm)]; simp;omega
 ·simp;omega
theorem eF {ts:List Int}{x:Pnt}{A v:Nat}(h:aQ x < 62):(iT ts x A).testBit v = ((A.testBit v && !(decide (v < ts.length) && decide (aV ts x v = 2))) || decide (aQ x = (v:Int))):=by
 unfold iT
 rw [Nat.testBit_or,c8,cC,gT h]
 simp
def r8 (ts : List Int) (pts : List Pnt) (A : List Nat) : Prop := A.length = pts.length ∧ ∀ i,i < pts.length → ∀ v,A[i]!.testBit v = true ↔ Mb ts pts (i,v)
def sC (ts : List Int) (pts : List Pnt) (A : List Nat) : Prop := A.length = pts.length ∧ ∀ i,i < pts.length → ∀ v,A[i]!.testBit v = true ↔ v < ts.length ∧ ¬ Na ts pts (i,v)
theorem lH {n:Nat}{A B:List Nat}(h1:A.length = n) (h2:B.length = n) (h:∀ i,i < n → ∀ v,A[i]!.testBit v = true ↔ B[i]!.testBit v = true):A = B:=by
 apply List.ext_getElem (by omega)
 intro i g1 g2
 have := h i (by omega)
 rw [aY _ _ g1,aY _ _ g2] at this
 apply Nat.eq_of_testBit_eq
 intro v
 rw [Bool.eq_iff_iff]; exact this v
def Ri (ts : List Int) (pts : List Pnt) (i A : Nat) : Prop := A < 2 ^ ts.length ∧ ∀ v,A.testBit v = true → Mb ts pts (i,v)
def Qv (ts : List Int) (pts : List Pnt) (i A : Nat) : Prop := A < 2 ^ ts.length ∧ ∀ v,v < ts.length → A.testBit v = false → Na ts pts (i,v)
theorem tJ {ts:List Int}{pts:List Pnt}(w:WG ts pts){i:Nat}(hi:i < pts.length){A:Nat}(hA:A < 2 ^ ts.length):iT ts pts[i]! A < 2 ^ ts.length:=by
 apply Nat.lt_pow_two_of_testBit
 intro v hv
 have hs := (w.set i hi).1
 have htl := w.tl
 rw [eF (by omega)]
 have : A.testBit v = false := by
  cases h : A.testBit v with
  | false => rfl
  | true => have := cT hA h;omega
 rw [this,Bool.false_and,Bool.false_or,decide_eq_false_iff_not]; omega
theorem Rs {ts:List Int}{pts:List Pnt}(w:WG ts pts):Flow (fun a s => a ||| s) (fun i A => iT ts pts[i]! A) pts (fun a => 2 ^ ts.length - a) (Ri ts pts):=by
 refine ⟨fun i k A B e hA hB => ⟨Nat.or_lt_two_pow hB.1 (tJ w e.1 hA.1),fun v hv => ?_⟩,fun i k A B e hA hB hne => ?_⟩
 ·have hs := (w.set i e.1).1
  have htl := w.tl
  rw [Nat.testBit_or,Bool.or_eq_true] at hv
  rcases hv with hv|hv
  ·exact hB.2 v hv
  ·rw [eF (by omega)] at hv
   simp only [Bool.or_eq_true,Bool.and_eq_true,Bool.not_eq_true',Bool.and_eq_false_iff,decide_eq_true_eq,decide_eq_false_iff_not] at hv
   rcases hv with ⟨h1,h2⟩|h1
   ·refine .step (hA.2 v h1) ⟨rfl, e, ?_⟩
    have := cT hA.1 h1
    rcases h2 with h2|h2
    ·omega
    ·exact h2
   ·exact .base ⟨i,e,h1⟩
 ·have h1 := mW hne
  have h2 := Nat.or_lt_two_pow hB.1 (tJ w e.1 hA.1)
  omega
theorem Rb {ts:List Int}{pts:List Pnt}(w:WG ts pts):Flow (fun a s => a &&& s) (fun i A => iT ts pts[i]! A) pts (fun a => a) (Qv ts pts):=by
 refine ⟨fun i k A B e hA hB => ⟨Nat.lt_of_le_of_lt Nat.and_le_left hB.1,fun v hv hf => ?_⟩,fun i k A B e hA hB hne => AP hne⟩
 have hs := (w.set i e.1).1
 have htl := w.tl
 rw [Nat.testBit_and,Bool.and_eq_false_iff] at hf
 rcases hf with hf|hf
 ·exact hB.2 v hv hf
 ·rw [eF (by omega)] at hf
  simp only [Bool.or_eq_false_iff,Bool.and_eq_false_iff,Bool.not_eq_false',Bool.and_eq_true,decide_eq_true_eq,decide_eq_false_iff_not] at hf
  obtain ⟨h1|h1,h2⟩ := hf
  ·exact .step (hA.2 v hv h1) ⟨rfl,e,h2⟩
  ·exact .base ⟨hv,.inr ⟨i,e,h1.2,h2⟩⟩
theorem J0 {ts:List Int}{pts:List Pnt}(w:WG ts pts){A:List Nat}(h:SG pts (Ri ts pts) A) (hc:l4 (fun a s => a ||| s) (fun i A => iT ts pts[i]! A) pts A):r8 ts pts A:=by
 refine ⟨h.1,fun i hi v => ⟨fun hv => (h.2 i hi).2 v hv,fun hm => ?_⟩⟩
 have htl := w.tl
 have key : ∀ a : Nat × Nat, Mb ts pts a → A[a.1]!.testBit a.2 = true := by
  refine Clo.sub (T := fun a : Nat × Nat => A[a.1]!.testBit a.2 = true) ?_ ?_
  ·rintro ⟨k, v⟩ ⟨i, e, hs⟩
   have h1 := (w.set i e.1).1
   refine fX.1 (hc i k e) v ?_
   rw [eF (by omega)]; simp only [Bool.or_eq_true,decide_eq_true_eq]; exact .inr hs
  ·rintro ⟨i, v⟩ ⟨k, v'⟩ ht ⟨rfl, e, hu⟩
   have h1 := (w.set i e.1).1
   refine fX.1 (hc i k e) v' ?_
   dsimp only at ht hu
   rw [eF (by omega),ht]; grind
 exact key (i,v) hm
theorem JD {ts:List Int}{pts:List Pnt}(w:WG ts pts){A:List Nat}(h:SG pts (Qv ts pts) A) (h0:A[0]! = 0) (hc:l4 (fun a s => a &&& s) (fun i A => iT ts pts[i]! A) pts A):sC ts pts A:=by
 refine ⟨h.1,fun i hi v => ?_⟩
 have htl := w.tl
 have key : ∀ a : Nat × Nat, Na ts pts a → A[a.1]!.testBit a.2 = false := by
  refine Clo.sub (T := fun a : Nat × Nat => A[a.1]!.testBit a.2 = false) ?_ ?_
  ·rintro ⟨k, v⟩ ⟨hv, h1 | ⟨i, e, hu, hs⟩⟩
   ·dsimp only at h1 ⊢; rw [h1,h0]; simp
   ·have h1 := (w.set i e.1).1
    dsimp only at hu hs hv ⊢
    cases hq : A[k]!.testBit v with
    | false => rfl
    | true =>
     have := tX.1 (hc i k e) v hq
     rw [eF (by omega)] at this
     grind
  ·rintro ⟨i, v⟩ ⟨k, v'⟩ ht ⟨rfl, e, hs⟩
   have h1 := (w.set i e.1).1
   dsimp only at ht hs ⊢
   cases hq : A[k]!.testBit v' with
   | false => rfl
   | true =>
    have := tX.1 (hc i k e) v' hq
    rw [eF (by omega),ht] at this
    grind
 constructor
 ·intro hv
  refine ⟨cT (h.2 i hi).1 hv,fun hn => ?_⟩
  have := key (i,v) hn
  dsimp only at this;rw [hv] at this;cases this
 ·rintro ⟨hv, hn⟩
  cases hq : A[i]!.testBit v with
  | true => rfl
  | false => exact absurd ((h.2 i hi).2 v hv hq) hn
theorem wJ {ts:List Int}{pts:List Pnt}{Pp:Nat → Nat → Prop}{l:List Nat}(h:SG pts Pp l) (hp:∀ i A,Pp i A → A < 2 ^ ts.length) (htl:ts.length ≤ 6) (z:Nat):Sm l[z]!:=by
 by_cases hz : z < pts.length
 ·exact ⟨Nat.lt_of_lt_of_le (hp _ _ (h.2 z hz)) (Nat.pow_le_pow_right (by decide) (by omega))⟩
 ·rw [getElem!_neg _ _ (by rw [h.1]; exact hz)]; exact ⟨by decide⟩
theorem AF {pts:List Pnt}{i j:Nat}(h:j < pts[i]!.next.length):(wQ pts i)[j]! = (pts[i]!.next[j]!).toNat:=by
 unfold wQ
 rw [aY _ _ (by simpa using h),aY _ _ h,List.getElem_map]
theorem dW {σ:Type}(f:σ → Nat → σ) (s:σ) (k:Nat):(List.range (k + 1)).foldl f s = f ((List.range k).foldl f s) k:=by
 rw [List.range_succ,List.foldl_append]; rfl
theorem jL {op:Nat → Nat → Nat}{s0:Nat}{pts:List Pnt}{i j:Nat}(h:j < pts[i]!.next.length) (s:List Nat × Bool) :
  ((wQ pts i).take (j + 1)).foldl (l7 op s0) s = l7 op s0 (((wQ pts i).take j).foldl (l7 op s0) s) (pts[i]!.next[j]!).toNat := by
 have hl : j < (wQ pts i).length := by unfold wQ;simpa using h
 rw [dR _ _ _ _ hl,AF h]
theorem l5 (pts:List Pnt) (i:Nat):(wQ pts i).length = pts[i]!.next.length := by unfold wQ;simp
theorem Az {op:Nat → Nat → Nat}{s0:Nat}{s:List Nat}{b:Bool}{k:Nat}(h:op s[k]! s0 ≠ s[k]!):l7 op s0 (s,b) k = (s.set k (op s[k]! s0),true) := by unfold l7;rw [if_pos h]
theorem A2 {op:Nat → Nat → Nat}{s0:Nat}{s:List Nat}{b:Bool}{k:Nat}(h:op s[k]! s0 = s[k]!):l7 op s0 (s,b) k = (s,b) := by unfold l7;rw [if_neg (fun hc => hc h)]
theorem Ae {op:Nat → Nat → Nat}{F:Nat → Nat → Nat}{pts:List Pnt}{g:Nat → Nat}{Pp:Nat → Nat → Prop}(f:Flow op F pts g Pp){ts:List Int}(w:WG ts pts){i k A:Nat}(hA:Pp i A) (e:cO pts i k){s:List Nat}(h:SG pts Pp s):SG pts Pp (s.set k (op s[k]! (F i A))):=by
 refine ⟨by simp [h.1],fun j hj => ?_⟩
 rw [dF _ _ _ _ (by rw [h.1]; exact cZ w e)]
 split
 ·rename_i q;subst q;exact f.snd _ _ _ _ e hA (h.2 j hj)
 ·exact h.2 j hj
theorem D6 {pts:List Pnt}{Pp:Nat → Nat → Prop}(h:∀ i,i < pts.length → Pp i 0):SG pts Pp (List.replicate pts.length 0):=by
 refine ⟨by simp,fun i hi => ?_⟩
 rw [aY _ _ (by simpa using hi),List.getElem_replicate]; exact h i hi
theorem GV {ts:List Int}{pts:List Pnt}{A B:List Nat}(h1:r8 ts pts A) (h2:r8 ts pts B):A = B := lH h1.1 h2.1 fun i hi v => (h1.2 i hi v).trans (h2.2 i hi v).symm
theorem He {ts:List Int}{pts:List Pnt}{A B:List Nat}(h1:sC ts pts A) (h2:sC ts pts B):A = B := lH h1.1 h2.1 fun i hi v => (h1.2 i hi v).trans (h2.2 i hi v).symm
theorem nO {l:List Nat}{k x:Nat}(h:l[k]! = x) (hk:k < l.length):l.set k x = l:=by
 subst h;rw [aY _ _ hk]; exact List.set_getElem_self hk
theorem NY {n k a:Nat}(h:k < n):(List.replicate k a ++ List.replicate (n - k) 0).set k a = List.replicate (k + 1) a ++ List.replicate (n - (k + 1)) 0:=by
 rw [show n - k = (n - (k + 1)) + 1 by omega,List.replicate_succ]
 have := tG (List.replicate k a) 0 a (List.replicate (n - (k + 1)) 0)
 rw [List.length_replicate] at this
 rw [this,List.replicate_succ']; simp
theorem Ka {ts:List Int}{pts:List Pnt}(w:WG ts pts){u:List Nat}(hu:u = List.replicate pts.length (2 ^ ts.length - 1)):SG pts (Qv ts pts) (u.set 0 0) ∧ (u.set 0 0)[0]! = 0:=by
 have hp0 := w.p0
 have h0 : 0 < u.length := by rw [hu]; simpa using hp0
 have hp : 0 < 2 ^ ts.length := Nat.pow_pos (by decide)
 refine ⟨⟨by simp [hu],fun i hi => ?_⟩,by rw [dF _ _ _ _ h0,if_pos rfl]⟩
 rw [dF _ _ _ _ h0]
 split
 ·rename_i e;subst e;exact ⟨hp,fun v hv _ => .base ⟨hv,.inl rfl⟩⟩
 ·rw [hu, aY _ _ (by simpa using hi), List.getElem_replicate]
  exact ⟨by omega,fun v hv hf => by rw [Nat.testBit_two_pow_sub_one] at hf;simp at hf;omega⟩
def L8 (pts : List Pnt) (B : List Nat) (i : Nat) : Nat := (wQ pts i).foldl (fun a k => a ||| B[k]!) 0
def rQ (ts : List Int) (pts : List Pnt) (B : List Nat) (i : Nat) : Nat := wS ts pts[i]! [1,2,3] ||| oJ (L8 pts B i) (jD pts[i]!)
theorem nC (B:List Nat) (v:Nat):∀ (L:List Nat) (a:Nat),(L.foldl (fun a k => a ||| B[k]!) a).testBit v = true ↔ a.testBit v = true ∨ ∃ k ∈ L,B[k]!.testBit v = true
 | [],a => by simp
 | k :: L, a => by
  rw [List.foldl_cons,nC B v L,Nat.testBit_or,Bool.or_eq_true]
  simp only [List.mem_cons,exists_eq_or_imp]
  grind
theorem sH {ts:List Int}{pts:List Pnt}(w:WG ts pts){B:List Nat}{i v:Nat}(hi:i < pts.length):(L8 pts B i).testBit v = true ↔ ∃ k,cO pts i k ∧ B[k]!.testBit v = true:=by
 unfold L8
 rw [nC]
 simp only [Nat.zero_testBit,Bool.false_eq_true,false_or,qN w hi]
theorem kL {ts:List Int}{pts:List Pnt}(w:WG ts pts){B:List Nat}{i v:Nat}(hi:i < pts.length):(rQ ts pts B i).testBit v = true ↔ (v < ts.length ∧ aV ts pts[i]! v ≠ 0) ∨ (aQ pts[i]! ≠ v ∧ ∃ k,cO pts i k ∧ B[k]!.testBit v = true):=by
 have hs := (w.set i hi).1
 have htl := w.tl
 have hb := pV ts pts[i]! v
 unfold rQ
 rw [Nat.testBit_or,c8,cC,gT (by omega)]
 simp only [Bool.or_eq_true,Bool.and_eq_true,decide_eq_true_eq,Bool.not_eq_true',decide_eq_false_iff_not,sH w hi,List.mem_cons,List.not_mem_nil,or_false]
 have : (aV ts pts[i]! (v : Int) = 1 ∨ aV ts pts[i]! (v : Int) = 2 ∨ aV ts pts[i]! (v : Int) = 3) ↔ aV ts pts[i]! (v : Int) ≠ 0 := by omega
 rw [this]
 constructor
 ·rintro (h | ⟨h1, h2⟩)
  ·exact .inl h
  ·exact .inr ⟨h2,h1⟩
 ·rintro (h | ⟨h1, h2⟩)
  ·exact .inl h
  ·exact .inr ⟨h2,h1⟩
def R4 (ts : List Int) (pts : List Pnt) (i A : Nat) : Prop := A < 2 ^ ts.length ∧ ∀ v,A.testBit v = true → Nd ts pts (i,v)
def u7 (ts : List Int) (pts : List Pnt) (A : List Nat) : Prop := A.length = pts.length ∧ ∀ i,i < pts.length → ∀ v,A[i]!.testBit v = true ↔ Nd ts pts (i,v)
theorem Hp {ts:List Int}{pts:List Pnt}{A B:List Nat}(h1:u7 ts pts A) (h2:u7 ts pts B):A = B := lH h1.1 h2.1 fun i hi v => (h1.2 i hi v).trans (h2.2 i hi v).symm
def mG (ts : List Int) (pts : List Pnt) (s : List Nat × Bool) (i : Nat) : List Nat × Bool := if rQ ts pts s.1 i ≠ s.1[i]! then (s.1.set i (rQ ts pts s.1 i),true) else s
def SN (ts : List Int) (pts : List Pnt) (l : List Nat) : Prop := SG pts (R4 ts pts) l ∧ ∀ i,i < pts.length → ∀ v,l[i]!.testBit v = true → (rQ ts pts l i).testBit v = true
theorem Ce {ts:List Int}{pts:List Pnt}(w:WG ts pts){l l':List Nat}{i:Nat}(hi:i < pts.length) (h:∀ k,k < pts.length → ∀ v,l[k]!.testBit v = true → l'[k]!.testBit v = true){v:Nat}(hv:(rQ ts pts l i).testBit v = true):(rQ ts pts l' i).testBit v = true:=by
 rw [kL w hi] at hv ⊢
 rcases hv with hv | ⟨h1,k,e,h2⟩
 ·exact .inl hv
 ·exact .inr ⟨h1,k,e,h k (cZ w e) v h2⟩
theorem ND {ts:List Int}{pts:List Pnt}(w:WG ts pts){l:List Nat}{i:Nat}(hi:i < pts.length) (h:SG pts (R4 ts pts) l):R4 ts pts i (rQ ts pts l i):=by
 have key : ∀ v, (rQ ts pts l i).testBit v = true → v < ts.length ∧ Nd ts pts (i, v) := by
  intro v hv
  rw [kL w hi] at hv
  rcases hv with ⟨h1,h2⟩ | ⟨h1,k,e,h2⟩
  ·exact ⟨h1,.base ⟨hi,h1,h2⟩⟩
  ·have hk := h.2 k (cZ w e)
   exact ⟨cT hk.1 h2,.step (hk.2 v h2) ⟨rfl,e,h1⟩⟩
 refine ⟨?_,fun v hv => (key v hv).2⟩
 apply Nat.lt_pow_two_of_testBit
 intro v hv
 cases hq : (rQ ts pts l i).testBit v with
 | false => rfl
 | true => have := (key v hq).1;omega
theorem xR {ts:List Int}{pts:List Pnt}(w:WG ts pts) (s:List Nat) (b:Bool) (i:Nat) (hi:i < pts.length) (h:SN ts pts s) :
  SN ts pts (mG ts pts (s,b) i).1 ∧ ((mG ts pts (s,b) i = (s,b) ∧ rQ ts pts s i = s[i]!) ∨ ((mG ts pts (s,b) i).2 = true ∧ fH ((mG ts pts (s,b) i).1.map (fun a => 2 ^ ts.length - a)) < fH (s.map (fun a => 2 ^ ts.length - a)))) := by
 unfold mG
 dsimp only
 have his : i < s.length := by rw [h.1.1]; exact hi
 by_cases hc : rQ ts pts s i ≠ s[i]!
 ·rw [if_pos hc]
  have hp := ND w hi h.1
  have hge : ∀ k, k < pts.length → ∀ v, s[k]!.testBit v = true → ((s.set i (rQ ts pts s i))[k]!).testBit v = true := by
   intro k hk v hv
   rw [dF _ _ _ _ his]
   split
   ·rename_i q;subst q;exact h.2 _ hk v hv
   ·exact hv
  refine ⟨⟨⟨by simp [h.1.1],fun j hj => ?_⟩,fun j hj v hv => ?_⟩,.inr ⟨rfl,?_⟩⟩
  ·rw [dF _ _ _ _ his]
   split
   ·rename_i q;subst q;exact hp
   ·exact h.1.2 j hj
  ·rw [dF _ _ _ _ his] at hv
   split at hv
   ·rename_i q;subst q;exact Ce w hj hge hv
   ·exact Ce w hj hge (h.2 j hj v hv)
  ·have h1 := pQ (fun a => 2 ^ ts.length - a) s i (rQ ts pts s i) his
   have h2 : s[i]! ||| rQ ts pts s i = rQ ts pts s i := by rw [Nat.or_comm]; exact fX.2 (h.2 i hi)
   have h3 : s[i]! < rQ ts pts s i := by
    have : s[i]! ≤ rQ ts pts s i := by rw [← h2]; exact Nat.left_le_or
    omega
   have h4 := hp.1
   dsimp only at h1 ⊢; omega
 ·rw [if_neg hc]
  exact ⟨h,.inl ⟨rfl,by simpa using hc⟩⟩
def Bx (ts : List Int) (pts : List Pnt) (s : List Nat × Bool) : List Nat × Bool := (List.range pts.length).reverse.foldl (mG ts pts) s
theorem GY {ts:List Int}{pts:List Pnt}(w:WG ts pts) (s:List Nat) (b:Bool) (h:SN ts pts s) :
  SN ts pts (Bx ts pts (s,b)).1 ∧ ((Bx ts pts (s,b) = (s,b) ∧ ∀ i,i < pts.length → rQ ts pts s i = s[i]!) ∨ ((Bx ts pts (s,b)).2 = true ∧ fH ((Bx ts pts (s,b)).1.map (fun a => 2 ^ ts.length - a)) < fH (s.map (fun a => 2 ^ ts.length - a)))) := by
 have := jS (mG ts pts) (fun i l => rQ ts pts l i = l[i]!) (fun l => fH (l.map (fun a => 2 ^ ts.length - a))) (SN ts pts) (List.range pts.length).reverse
  (fun s' b' i hi hs => xR w s' b' i (List.mem_range.1 (List.mem_reverse.1 hi)) hs) s b h
 refine ⟨this.1,?_⟩
 rcases this.2 with ⟨e1,e2⟩|h2
 ·exact .inl ⟨e1,fun i hi => e2 i (List.mem_reverse.2 (List.mem_range.2 hi))⟩
 ·exact .inr h2
theorem Iy {ts:List Int}{pts:List Pnt}(w:WG ts pts){A:List Nat}(h:SN ts pts A) (hc:∀ i,i < pts.length → rQ ts pts A i = A[i]!):u7 ts pts A:=by
 refine ⟨h.1.1,fun i hi v => ⟨fun hv => (h.1.2 i hi).2 v hv,fun hm => ?_⟩⟩
 have key : ∀ a : Nat × Nat, Nd ts pts a → A[a.1]!.testBit a.2 = true := by
  refine Clo.sub (T := fun a : Nat × Nat => A[a.1]!.testBit a.2 = true) ?_ ?_
  ·rintro ⟨i, v⟩ ⟨h1, h2, h3⟩
   dsimp only at h1 h2 h3 ⊢
   rw [← hc i h1,kL w h1]; exact .inl ⟨h2,h3⟩
  ·rintro ⟨n, v⟩ ⟨i, v'⟩ ht ⟨rfl, e, hs⟩
   dsimp only at ht hs e ⊢
   rw [← hc i e.1,kL w e.1]; exact .inr ⟨hs,n,e,ht⟩
 exact key (i,v) hm
def sG (ts : List Int) (pts : List Pnt) (A : List Nat) : Prop := A.length = pts.length ∧ ∀ i,i < pts.length → ∀ v,A[i]!.testBit v = true ↔ Lv ts pts i v
theorem xF {ts:List Int}{pts:List Pnt}{A B:List Nat}(h1:sG ts pts A) (h2:sG ts pts B):A = B := lH h1.1 h2.1 fun i hi v => (h1.2 i hi v).trans (h2.2 i hi v).symm
theorem Ct {ts:List Int}{pts:List Pnt}(w:WG ts pts){A:List Nat}(h:u7 ts pts A):sG ts pts ((List.range pts.length).map (L8 pts A)):=by
 refine ⟨by simp,fun i hi v => ?_⟩
 rw [aY _ _ (by simpa using hi),List.getElem_map,List.getElem_range,sH w hi]
 constructor
 ·rintro ⟨k,e,hk⟩; exact ⟨k,e,(h.2 k (cZ w e) v).1 hk⟩
 ·rintro ⟨k,e,hk⟩; exact ⟨k,e,(h.2 k (cZ w e) v).2 hk⟩
theorem CE {n k:Nat}(h:k < n):(List.range n).reverse[k]! = n - 1 - k:=by
 rw [aY _ _ (by simpa using h),List.getElem_reverse]; simp
theorem Ey {ts:List Int}{pts:List Pnt}{s:List Nat}{b:Bool}{i:Nat}(h:rQ ts pts s i ≠ s[i]!):mG ts pts (s,b) i = (s.set i (rQ ts pts s i),true) := by unfold mG;rw [if_pos h]
theorem NV {ts:List Int}{pts:List Pnt}{s:List Nat}{b:Bool}{i:Nat}(h:rQ ts pts s i = s[i]!):mG ts pts (s,b) i = (s,b) := by unfold mG;rw [if_neg (fun hc => hc h)]
theorem Qj {ts:List Int}{pts:List Pnt}:SN ts pts (List.replicate pts.length 0):=by
 refine ⟨D6 fun i hi => ⟨Nat.pow_pos (by decide),fun v h => by simp at h⟩,fun i hi v h => ?_⟩
 rw [aY _ _ (by simpa using hi),List.getElem_replicate] at h;simp at h
theorem uO {ts:List Int}{pts:List Pnt}(w:WG ts pts){a:Nat × Nat}(h:Nd ts pts a):a.2 < ts.length:=by
 induction h with
 | base h => exact h.2.1
 | step _ r ih => rw [r.1]; exact ih
instance (a b : List AV) [h : Pur a] [h2 : Pur b] : Pur (a ++ b):=⟨by rw [jF,h.pf,h2.pf]; rfl⟩
instance (fn : Go.Fn) (f c : List AV) [h : Pur f] [h2 : Pur c] : PurV (.clos fn f c):=⟨by simp only [AV.pur,h.pf,h2.pf,Bool.and_self]⟩
def cN (n : Nat) : List AV := [.v (.int .i64 (n : Int))]
def cW (n : Nat) : List AV := [.v (.int .u64 (n : Int))]
instance : FlT cN 1:=⟨fun _ => rfl⟩
instance : FlT cW 1:=⟨fun _ => rfl⟩
instance : FE cN (fun n => [.v (.int .i64 (n : Int))]):=⟨fun _ => rfl⟩
instance : FE cW (fun n => [.v (.int .u64 (n : Int))]):=⟨fun _ => rfl⟩
instance (n : Nat) : Pur (cN n):=⟨rfl⟩
instance (n : Nat) : Pur (cW n):=⟨rfl⟩
theorem O5 {xs:List Nat}{k:Nat}{a:Nat}(hk:k < xs.length):gW (flat cN xs) (0 + k * 1) [.v (.int .i64 (a:Int))] = flat cN (xs.set k a) := iS hk rfl
theorem Fp {xs:List Nat}{k:Nat}{a:Nat}(hk:k < xs.length):gW (flat cW xs) (0 + k * 1) [.v (.int .u64 (a:Int))] = flat cW (xs.set k a) := iS hk rfl
theorem Lq {xs:List Nat}{m:Nat}{a:Nat}(hm:m = xs.length):((flat cN xs).drop 0).take (m * 1) ++ [.v (.int .i64 (a:Int))] = flat cN (xs ++ [a]) := fJ hm rfl
theorem wN {α:Type}{f:α → List AV}{x:α}{l:List AV}{m:Nat}(h:l = f x):(List.replicate m l).flatten = flat f (List.replicate m x):=by
 subst h;simp [flat,List.flatMap_def]
theorem OR {m:Nat}:(List.replicate m ([Value.int .i64 0].map AV.v)).flatten = flat cN (List.replicate m 0) := wN rfl
theorem LB {m:Nat}:(List.replicate m ([Value.int .u64 0].map AV.v)).flatten = flat cW (List.replicate m 0) := wN rfl
theorem E0 {m:Nat}:(List.replicate m ([Value.bool false].map AV.v)).flatten = flat cB (List.replicate m false) := wN rfl
section
theorem oL {t el e by' m:Nat}{x y:Operand}{zs:List Value}{cs:List AV}{k k':IntKind}[ht:SlT P t el] [he:SzT P el e] [hb:ByT P el by'] [hz:ZrT P el zs]
  (hx : ev (lk ts) x = some (.v (.int k (m : Int)))) (hy : ev (lk ts) y = some (.v (.int k' (m : Int)))) (hze : zs.length = e) (hsm : by' * m ≤ 281474976710656) (hmx : m ≤ 9223372036854775807)
  (hcs : (List.replicate m (zs.map .v)).flatten = cs) (hM : Nat.blt n a6 = true) (hN : Nat.blt d N = true) {md' : Md} [hmd : MdA md (rO x ++ rO y) [.inr n,.inl d] md'] (kk : RW P N all Q md' rest ⟨(d,.own n 0 m e) :: ts,(n,some cs) :: hs,n + 1,z0⟩) :
  RW P N all Q md (⟨some d,.makeSlice t x y,ty,pos,af,none⟩ :: rest) ⟨ts,hs,n,z0⟩ := by
 subst hcs
 exact zW hx hy hze hsm hmx hM hN (md' := md') (hmd := hmd) kk
end
theorem oB {H:Nat → Option (List AV)}:kF H [] = some [] := rfl
theorem l3 {H:Nat → Option (List AV)}{c x:AV}{cs l:List AV}(h1:jT H c = some x) (h2:kF H cs = some l):kF H (c :: cs) = some (x :: l):=by
 simp only [kF,h1,h2]
theorem n0 {H:Nat → Option (List AV)}{i m e:Nat}{cs:List AV}(h:H i = some cs) (hp:Pur cs):jT H (.own i 0 m e) = some (.imm m cs):=by
 simp only [jT,h,Option.bind_some,hp.pf,if_true,List.drop_zero]
theorem z6 {H:Nat → Option (List AV)}{x:Value}:jT H (.v x) = some (.v x) := rfl
theorem DC {H:Nat → Option (List AV)}{cs:List AV}(hp:Pur cs):jT H (.iptr cs) = some (.iptr cs) := by simp only [jT,hp.pf,if_true]
section
theorem qO {k:FuncId}{args:Array Operand}{tys:Array TypeId}{avs avs2:List AV}{r:AV}{md':Md}[hc:CaT P k] (ha:evL (lk ts) args.toList = some avs) (hl:kF (aT hs) avs = some avs2) (h:PC P k avs2 (fun x => x = r)) (hfr:r.free = true) (hN:Nat.blt d N = true)
  (hmd : MdA md (fF args.toList ++ rL avs) [.inl d] md') (kk : RW P N all Q md' rest ⟨(d,r) :: ts,hs,n,z0⟩) : RW P N all Q md (⟨some d,.call ⟨.value (.func k),args,tys⟩,ty,pos,af,none⟩ :: rest) ⟨ts,hs,n,z0⟩ := by
 exact Ma ha hl h hfr hN (hmd := hmd) kk
end
theorem G1 {k:IntKind}[hk:K6 k] (a:Nat) [ha:Sm a]:gN .and k a 1 = some (.int k ((a &&& 1:Nat):Int)) := B5 a 1
section
theorem NH {k:IntKind}{t t':TypeId}{x y:Operand}{a:Nat}(hx:ev (lk ts) x = some (.v (.int k (a:Int)))) (hy:ev (lk ts) y = some (.v (.int k 1))) (hk:K6 k) (ha:Sm a)
  (hN : Nat.blt d N = true) {md' : Md} [hmd : MdA md (rO x ++ rO y) [.inl d] md'] (kk : RW P N all Q md' rest ⟨(d,.v (.int k ((a &&& 1 : Nat) : Int))) :: ts,hs,n,z0⟩) : RW P N all Q md (⟨some d,.binOp .and t x y t',ty,pos,af,none⟩ :: rest) ⟨ts,hs,n,z0⟩ :=
 dT hx hy (.inl rfl) (G1 a) (cS hN) (by rw [hmd.pf]; exact kk)
end
theorem mP (A v:Nat):((A >>> v &&& 1:Nat):Int) = 1 ↔ A.testBit v = true:=by
 rw [Nat.testBit,Nat.and_comm]
 have : 1 &&& (A >>> v) = (A >>> v) % 2 := by rw [Nat.and_comm,Nat.and_one_is_mod]
 rw [this]
 have := Nat.mod_two_eq_zero_or_one (A >>> v)
 simp only [bne_iff_ne,ne_eq]
 omega
def a7 (A : Nat) : List Int := ((List.range 62).filter (A.testBit ·)).map (fun v : Nat => (v : Int))
theorem rN {A k:Nat}(h:∀ v,k ≤ v → A.testBit v = false) (hk:k ≤ 64) (hA:Sm A):a7 A = ((List.range k).filter (A.testBit ·)).map (fun v:Nat => (v:Int)):=by
 unfold a7
 congr 1
 have e : ∀ (a b : Nat), (∀ v, a ≤ v → v < a + b → A.testBit v = false) → (List.range (a + b)).filter (A.testBit ·) = (List.range a).filter (A.testBit ·) := by
  intro a b hb
  rw [List.range_add,List.filter_append]
  have : List.filter (A.testBit ·) (List.map (fun x => a + x) (List.range b)) = [] := by
   rw [List.filter_eq_nil_iff]
   intro x hx
   rw [List.mem_map] at hx
   obtain ⟨y,hy,rfl⟩ := hx
   rw [List.mem_range] at hy
   rw [hb _ (by omega) (by omega)]; simp
  rw [this,List.append_nil]
 rcases Nat.le_total k 62 with h1|h1
 ·have := e k (62 - k) (fun v h2 _ => h v h2)
  rwa [show k + (62 - k) = 62 by omega] at this
 ·have := e 62 (k - 62) (fun v h2 _ => Nat.testBit_lt_two_pow (Nat.lt_of_lt_of_le hA.pf (Nat.pow_le_pow_right (by decide) h2)))
  rw [show 62 + (k - 62) = k by omega] at this
  exact this.symm
theorem jM (p:Nat → Bool) (k:Nat):(List.range (k + 1)).filter p = (List.range k).filter p ++ (if p k = true then [k] else []):=by
 rw [List.range_succ,List.filter_append]
 congr 1
 by_cases h : p k = true <;> simp [h]
theorem cJ {A:Nat}{z:Int}:z ∈ a7 A ↔ ∃ v:Nat,v < 62 ∧ A.testBit v = true ∧ z = v:=by
 unfold a7
 simp only [List.mem_map,List.mem_filter,List.mem_range]
 constructor
 ·rintro ⟨v,⟨h1,h2⟩,rfl⟩; exact ⟨v,h1,h2,rfl⟩
 ·rintro ⟨v,h1,h2,rfl⟩; exact ⟨v,⟨h1,h2⟩,rfl⟩
theorem E7 {A k:Nat}(hA:Sm A) (h:0 < ((A >>> k:Nat):Int)):k < 62:=by
 rcases Nat.lt_or_ge k 62 with h1|h1
 ·exact h1
 ·have : A >>> k = 0 := by rw [Nat.shiftRight_eq_div_pow]; exact Nat.div_eq_of_lt (Nat.lt_of_lt_of_le hA.pf (Nat.pow_le_pow_right (by decide) h1))
  rw [this] at h;simp at h
theorem Jj {A k:Nat}(h:((A >>> k:Nat):Int) ≤ 0) (v:Nat) (hv:k ≤ v):A.testBit v = false:=by
 have h0 : A >>> k = 0 := Nat.le_zero.1 (Int.ofNat_le.1 h)
 have : A.testBit v = (A >>> k).testBit (v - k) := by rw [Nat.testBit_shiftRight]; congr 1;omega
 rw [this,h0]; simp
theorem yT {A k:Nat}{u:List Int}(h:((A >>> k &&& 1:Nat):Int) = 1) (hu:u = ((List.range k).filter (A.testBit ·)).map (fun v:Nat => (v:Int))):u ++ [(k:Int)] = ((List.range (k + 1)).filter (A.testBit ·)).map (fun v:Nat => (v:Int)):=by
 rw [jM,if_pos ((mP A k).1 h),List.map_append,hu]; rfl
theorem xG {A k:Nat}{u:List Int}(h:¬ ((A >>> k &&& 1:Nat):Int) = 1) (hu:u = ((List.range k).filter (A.testBit ·)).map (fun v:Nat => (v:Int))):u = ((List.range (k + 1)).filter (A.testBit ·)).map (fun v:Nat => (v:Int)):=by
 rw [jM,if_neg (fun q => h ((mP A k).2 q)),List.append_nil,hu]
def sY (pts : List Pnt) (V : Nat) : Nat := e8 (fun l => b9 pts[l]! && V.testBit (pts[l]!.y.toNat)) pts.length
theorem IN {ts:List Int}{pts:List Pnt}(w:WG ts pts) (V:Nat):Sm (sY pts V) := b0 (by have := w.pl;omega)
theorem nG {pts:List Pnt}{V l:Nat}:(sY pts V).testBit l = (decide (l < pts.length) && (b9 pts[l]! && V.testBit (pts[l]!.y.toNat))) := e5 _ _ _
def Ou (pts : List Pnt) (i : Nat) : Nat := if b9 pts[i]! = true then 2 ^ i else 0
def Aq (ts : List Int) (pts : List Pnt) (i A : Nat) : Nat := oJ A (sY pts (wS ts pts[i]! [2] ||| jD pts[i]!)) ||| Ou pts i
theorem rW {ts:List Int}{pts:List Pnt}(w:WG ts pts){l:Nat}(hl:l < pts.length) (h:b9 pts[l]! = true):0 ≤ pts[l]!.y ∧ pts[l]!.y < ts.length ∧ pts[l]!.y.toNat < ts.length ∧ ((pts[l]!.y.toNat:Nat):Int) = pts[l]!.y:=by
 have := w.y l hl
 unfold b9 at h
 simp only [Bool.or_eq_true,decide_eq_true_eq] at h
 omega
theorem testBit_lnB {pts:List Pnt}{i l:Nat}:(Ou pts i).testBit l = (b9 pts[i]! && decide (l = i)):=by
 unfold Ou
 split
 ·rename_i h
  by_cases e : l = i
  ·subst e;rw [Nat.testBit_two_pow_self,h]; simp
  ·rw [Nat.testBit_two_pow_of_ne (fun q => e q.symm),h]; simp [e]
 ·rename_i h;rw [Bool.not_eq_true] at h;rw [h]; simp
theorem mM {ts:List Int}{pts:List Pnt}(w:WG ts pts){i A l:Nat}(hi:i < pts.length) (hl:l < pts.length) (hln:b9 pts[l]! = true):(Aq ts pts i A).testBit l = true ↔ (A.testBit l = true ∧ aV ts pts[i]! pts[l]!.y ≠ 2 ∧ aQ pts[i]! ≠ pts[l]!.y) ∨ (b9 pts[i]! = true ∧ l = i):=by
 have hy := rW w hl hln
 have hs := (w.set i hi).1
 have htl := w.tl
 unfold Aq
 rw [Nat.testBit_or,c8,nG,testBit_lnB,Nat.testBit_or,cC,gT (by omega),hy.2.2.2,hln]
 simp only [Bool.or_eq_true,Bool.and_eq_true,Bool.not_eq_true',Bool.and_eq_false_iff,Bool.or_eq_false_iff,decide_eq_true_eq,decide_eq_false_iff_not,List.mem_cons,List.not_mem_nil,or_false,Bool.true_eq_false,false_or]
 have := hy.2.2.1
 grind
theorem Ec {ts:List Int}{pts:List Pnt}(w:WG ts pts){i A:Nat}(hi:i < pts.length) (hA:A < 2 ^ pts.length):Aq ts pts i A < 2 ^ pts.length:=by
 unfold Aq
 refine Nat.or_lt_two_pow (Nat.xor_lt_two_pow hA (Nat.lt_of_le_of_lt Nat.and_le_left hA)) ?_
 unfold Ou;split
 ·exact Nat.pow_lt_pow_right (by decide) hi
 ·exact Nat.pow_pos (by decide)
def QY (ts : List Int) (pts : List Pnt) (i A : Nat) : Prop := A < 2 ^ pts.length ∧ ∀ l,A.testBit l = true → Oe ts pts (i,l)
def sR (ts : List Int) (pts : List Pnt) (A : List Nat) : Prop := A.length = pts.length ∧ ∀ i,i < pts.length → ∀ l,A[i]!.testBit l = true ↔ Oe ts pts (i,l)
theorem Gf {ts:List Int}{pts:List Pnt}{A B:List Nat}(h1:sR ts pts A) (h2:sR ts pts B):A = B := lH h1.1 h2.1 fun i hi v => (h1.2 i hi v).trans (h2.2 i hi v).symm
theorem v7 {ts:List Int}{pts:List Pnt}{a:Nat × Nat}(h:Oe ts pts a):a.2 < pts.length ∧ b9 pts[a.2]! = true:=by
 induction h with
 | base h => exact ⟨h.1.1,h.2⟩
 | step _ r ih => rw [r.1]; exact ih
theorem QV {ts:List Int}{pts:List Pnt}(w:WG ts pts):Flow oW (Aq ts pts) pts (fun a => 2 ^ pts.length - a) (QY ts pts):=by
 refine ⟨fun i k A B e hA hB => ⟨Nat.or_lt_two_pow hB.1 (Ec w e.1 hA.1),fun l hl => ?_⟩,fun i k A B e hA hB hne => ?_⟩
 ·rw [Nat.testBit_or, Bool.or_eq_true] at hl
  rcases hl with hl|hl
  ·exact hB.2 l hl
  ·have hln : l < pts.length ∧ b9 pts[l]! = true := by
    have h0 := hl
    unfold Aq at h0
    rw [Nat.testBit_or,c8,Bool.or_eq_true,Bool.and_eq_true] at h0
    rcases h0 with h0|h0
    ·exact v7 (hA.2 l h0.1)
    ·rw [testBit_lnB, Bool.and_eq_true, decide_eq_true_eq] at h0
     rw [h0.2]; exact ⟨e.1,h0.1⟩
   rw [mM w e.1 hln.1 hln.2] at hl
   rcases hl with ⟨h1,h2,h3⟩ | ⟨h1,rfl⟩
   ·exact .step (hA.2 l h1) ⟨rfl,e,h2,h3⟩
   ·exact .base ⟨e,h1⟩
 ·have h1 := mW hne
  have h2 := Nat.or_lt_two_pow hB.1 (Ec w e.1 hA.1)
  show 2 ^ pts.length - (B ||| Aq ts pts i A) < 2 ^ pts.length - B
  omega
theorem KU {ts:List Int}{pts:List Pnt}(w:WG ts pts){A:List Nat}(h:SG pts (QY ts pts) A) (hc:l4 oW (Aq ts pts) pts A):sR ts pts A:=by
 refine ⟨h.1,fun i hi l => ⟨fun hl => (h.2 i hi).2 l hl,fun hm => ?_⟩⟩
 have key : ∀ a : Nat × Nat, Oe ts pts a → (A[a.1]!.testBit a.2 = true ∧ a.2 < pts.length ∧ b9 pts[a.2]! = true) := by
  refine Clo.sub (T := fun a : Nat × Nat => A[a.1]!.testBit a.2 = true ∧ a.2 < pts.length ∧ b9 pts[a.2]! = true) ?_ ?_
  ·rintro ⟨k, l⟩ ⟨e, hl⟩
   dsimp only at e hl ⊢
   refine ⟨fX.1 (hc l k e) l ?_,e.1,hl⟩
   rw [mM w e.1 e.1 hl]; exact .inr ⟨hl,rfl⟩
  ·rintro ⟨i, l⟩ ⟨k, l'⟩ ⟨ht, hl1, hl2⟩ ⟨rfl, e, hu, hs⟩
   dsimp only at ht hl1 hl2 e hu hs ⊢
   refine ⟨fX.1 (hc i k e) l' ?_,hl1,hl2⟩
   rw [mM w e.1 hl1 hl2]; exact .inl ⟨ht,hu,hs⟩
 exact (key (i,l) hm).1
theorem eV (xs:List Nat):(flat cW xs).length = xs.length := by rw [aI cW (e := 1)]; omega
theorem Cs {xs:List Nat}{q:Nat}(h:q < xs.length):(flat cW xs).drop q = .v (.int .u64 ((xs[q]!:Nat):Int)) :: flat cW (xs.drop (q + 1)):=by
 have := fE cW (e := 1) xs q h
 rw [Nat.mul_one] at this;rw [this]; rfl
section
theorem DM {t el z:Nat}{x i:Operand}{xs:List Nat}{k:IntKind}{m:Int}[ht:ArT P t z el] [he:SzT P el 1] [ha:AgT P el false] (hx:ev (lk ts) x = some (.agg (flat cW xs)))
  (hi : ev (lk ts) i = some (.v (.int k m))) (hl : xs.length = z) (hm : 0 ≤ m ∧ m < z) (hN : Nat.blt d N = true) {md' : Md} [hmd : MdA md (rO x ++ rO i) [.inl d] md'] (kk : RW P N all Q md' rest ⟨(d,.v (.int .u64 ((xs[m.toNat]! : Nat) : Int))) :: ts,hs,n,z0⟩) :
  RW P N all Q md (⟨some d,.index t x i,ty,pos,af,none⟩ :: rest) ⟨ts,hs,n,z0⟩ := by
 refine Gp (c := .v (.int .u64 ((xs[m.toNat]! : Nat) : Int))) hx hi ht.pf he.pf ha.pf hm ?_ (cS hN) (by rw [hmd.pf]; exact kk)
 have hlt : m.toNat < xs.length := by omega
 have := congrArg List.head? (Cs hlt)
 rw [List.head?_drop] at this
 rw [Nat.mul_one]; exact this
theorem Cc {id z:Nat}{t:TypeId}{x:Operand}{xs:List Nat}[ha:AgT P t true] [hz:SzT P t z] (hx:ev (lk ts) x = some (.optr id 0)) (hH:aT hs id = some (flat cW xs)) (hl:xs.length = z) (h0:Nat.blt 0 z = true)
  (hN : Nat.blt d N = true) {md' : Md} [hmd : MdA md (rO x ++ rA (.optr id 0)) [.inl d] md'] (kk : RW P N all Q md' rest ⟨(d,.agg (flat cW xs)) :: ts,hs,n,z0⟩) : RW P N all Q md (⟨some d,.load t x,ty,pos,af,none⟩ :: rest) ⟨ts,hs,n,z0⟩ :=
 lG (cs := flat cW xs) hx ha.pf hz.pf (by simp only [deref,hH,Option.map_some,List.drop_zero]) (List.take_of_length_le (by rw [eV,hl]; exact Nat.le_refl _)) (by rw [eV,hl]) (by have := cS h0;omega) (cS hN) (by rw [hmd.pf]; exact kk)
theorem Bz {id z k:Nat}{t:TypeId}{x:Operand}{xs:List Nat}[ha:AgT P t true] [hz:SzT P t z] (hx:ev (lk ts) x = some (.optr id (0 + k * z))) (hH:aT hs id = some (flat cW xs)) (hl:k * z + z ≤ xs.length) (h0:Nat.blt 0 z = true)
  (hN : Nat.blt d N = true) {md' : Md} [hmd : MdA md (rO x ++ rA (.optr id (0 + k * z))) [.inl d] md'] (kk : RW P N all Q md' rest ⟨(d,.agg (flat cW ((xs.drop (k * z)).take z))) :: ts,hs,n,z0⟩) : RW P N all Q md (⟨some d,.load t x,ty,pos,af,none⟩ :: rest) ⟨ts,hs,n,z0⟩ := by
 have e1 : (flat cW xs).drop (0 + k * z) = flat cW (xs.drop (k * z)) := by
  have := j4 cW (e := 1) xs (k * z);rw [Nat.mul_one] at this;rw [Nat.zero_add,this]
 have e2 : (flat cW (xs.drop (k * z))).take z = flat cW ((xs.drop (k * z)).take z) := by
  have := dL cW (e := 1) (xs.drop (k * z)) z;rw [Nat.mul_one] at this;exact this
 exact lG (cs := flat cW (xs.drop (k * z))) hx ha.pf hz.pf (by simp only [deref,hH,Option.map_some]; rw [e1]) e2 (by rw [eV,List.length_take,List.length_drop]; omega) (by have := cS h0;omega) (cS hN) (by rw [hmd.pf]; exact kk)
theorem HA {id o q:Nat}{t:TypeId}{x:Operand}{xs:List Nat}[ha:AgT P t false] (hx:ev (lk ts) x = some (.optr id o)) (hH:aT hs id = some (flat cW xs)) (ho:o = q) (hq:q < xs.length)
  (hN : Nat.blt d N = true) {md' : Md} [hmd : MdA md (rO x ++ rA (.optr id o)) [.inl d] md'] (kk : RW P N all Q md' rest ⟨(d,.v (.int .u64 ((xs[q]! : Nat) : Int))) :: ts,hs,n,z0⟩) : RW P N all Q md (⟨some d,.load t x,ty,pos,af,none⟩ :: rest) ⟨ts,hs,n,z0⟩ := by
 subst ho
 exact nE hx ha.pf (by simp only [deref,hH,Option.map_some]; rw [Cs hq]) rfl (cS hN) (by rw [hmd.pf]; exact kk)
theorem BJ {id z:Nat}{t:TypeId}{x y:Operand}{xs:List Nat}{cs:List AV}[hz:SzT P t z] (hx:ev (lk ts) x = some (.optr id 0)) (hy:ev (lk ts) y = some (.agg (flat cW xs))) (hH:aT hs id = some cs) (hl:xs.length = z) (hc:cs.length = z)
  {md' : Md} [hmd : MdA md (rO x ++ (rO y ++ [.inr id])) [.inr id] md'] (kk : RW P N all Q md' rest ⟨ts,(id,some (flat cW xs)) :: hs,n,z0⟩) : RW P N all Q md (⟨none,.store t x y,ty,pos,af,none⟩ :: rest) ⟨ts,hs,n,z0⟩ :=
 Cb (cs' := flat cW xs) hx hy hz.pf rfl (by rw [eV, hl]) hH (by rw [eV]; omega) (by
  unfold gW
  rw [List.take_zero,List.nil_append,Nat.zero_add,eV,hl,List.drop_of_length_le (by omega),List.append_nil]) (by rw [hmd.pf]; exact kk)
theorem RS {a b:Nat}:0 + a * 6 + b * 1 = a * 6 + b := by omega
theorem RK {a:Nat}:0 + a * 1 = a := by omega
theorem J8 {xs:List Nat}{k v a:Nat}(hk:k * 6 + v < xs.length):gW (flat cW xs) (0 + k * 6 + v * 1) [.v (.int .u64 (a:Int))] = flat cW (xs.set (k * 6 + v) a):=by
 rw [show 0 + k * 6 + v * 1 = 0 + (k * 6 + v) * 1 by omega]; exact Fp hk
theorem oN {T:Nat → Option AV}{H:Nat → Option (List AV)}{a t id z:Nat}{xs:List Nat}[ha:AgT P t true] [hz:SzT P t z] (h1:T a = some (.optr id 0)) (h2:H id = some (flat cW xs)) (hl:xs.length = z) (h0:0 < z) :
  xE P T H [.cell a t] = some [.agg (flat cW xs)] := by
 have e : (flat cW xs).take z = flat cW xs := List.take_of_length_le (by rw [eV,hl]; exact Nat.le_refl _)
 simp only [xE,M0,h1,deref,h2,Option.map_some,List.drop_zero,ha.pf,hz.pf,e,eV,hl]
 rw [if_pos ⟨trivial,by omega⟩]
end
theorem IT {m:Nat}:(List.replicate m ([Value.int .u64 0,Value.int .u64 0,Value.int .u64 0,Value.int .u64 0,Value.int .u64 0,Value.int .u64 0].map AV.v)).flatten = flat cW (List.replicate (m * 6) 0):=by
 induction m with
 | zero => rfl
 | succ m ih =>
  rw [List.replicate_succ,List.flatten_cons,ih,Nat.succ_mul,Nat.add_comm,← List.replicate_append_replicate,← cE]
  rfl
def oU (L : List Int) (f : List Nat) : List Nat := L.foldl (fun f v => f.set v.toNat 0) f
def AB (ts : List Int) (pts : List Pnt) (i : Nat) (f : List Nat) : List Nat :=
 let x := pts[i]!
 let u := oU (a7 (wS ts x [2])) f
 if aQ x < 0 then u else
  let v := (aQ x).toNat
  let u2 := if b9 x = true then (u.set v 0).set v (2 ^ i) else u.set v 0
  if (b9 x = true ∧ kQ ts[x.y.toNat]! = true) ∨ x.op = 3 then u2.set v (u2[v]! ||| f[x.y.toNat]!) else u2
theorem qC:∀ (L:List Int) (f:List Nat),(oU L f).length = f.length
 | [],f => rfl
 | v :: L,f => by show (oU L (f.set v.toNat 0)).length = _; rw [qC L]; simp
theorem zZ:∀ (L:List Int) (f:List Nat) (q:Nat),(oU L f)[q]! = if ∃ v ∈ L,v.toNat = q then 0 else f[q]!
 | [],f,q => by simp [oU]
 | v :: L, f, q => by
  show (oU L (f.set v.toNat 0))[q]! = _
  rw [zZ L]
  by_cases h : ∃ v ∈ L,v.toNat = q
  ·rw [if_pos h,if_pos (by obtain ⟨z,h1,h2⟩ := h;exact ⟨z,List.mem_cons_of_mem _ h1,h2⟩)]
  ·rw [if_neg h]
   by_cases hv : v.toNat = q
   ·rw [if_pos ⟨v, List.mem_cons_self, hv⟩]
    subst hv
    by_cases hq : v.toNat < f.length
    ·rw [dF _ _ _ _ hq,if_pos rfl]
    ·rw [getElem!_neg (f.set v.toNat 0) v.toNat (by simpa using hq)]; rfl
   ·rw [if_neg (by rintro ⟨z, hz, e⟩; rcases List.mem_cons.1 hz with rfl | hz; exact hv e; exact h ⟨z, hz, e⟩)]
    simp only [List.getElem!_eq_getElem?_getD,List.getElem?_set_ne hv]
theorem NA (ts:List Int) (pts:List Pnt) (i:Nat) (f:List Nat):(AB ts pts i f).length = f.length:=by
 unfold AB
 dsimp only
 split
 ·exact qC _ _
 ·split <;> split <;> simp [qC]
theorem PD {L:List Int}{f:List Nat}(h:∀ z:Nat,Sm f[z]!) (z:Nat):Sm (oU L f)[z]!:=by
 rw [zZ]; split
 ·infer_instance
 ·exact h z
theorem Ew {f:List Nat}{k a:Nat}(h:∀ z:Nat,Sm f[z]!) (ha:Sm a) (z:Nat):Sm (f.set k a)[z]!:=by
 by_cases hk : k < f.length
 ·rw [dF _ _ _ _ hk]; split
  ·exact ha
  ·exact h z
 ·rw [List.set_eq_of_length_le (by omega)]; exact h z
theorem pI {x:Pnt}(h:b9 x = true):x.op = 4 ∨ x.op = 5 := by simpa [b9] using h
theorem Gt {L:List Int}{f:List Nat}{k:Nat}(h:k < L.length):oU (L.take (k + 1)) f = (oU (L.take k) f).set (L[k]!).toNat 0:=by
 unfold oU;rw [dR _ _ _ _ h]
theorem nF {A n:Nat}(h:A < 2 ^ n){k:Nat}(hk:k < (a7 A).length):0 ≤ (a7 A)[k]! ∧ (a7 A)[k]! < n:=by
 obtain ⟨v,h1,h2,h3⟩ := cJ.1 (aS _ _ hk)
 have := cT h h2
 omega
theorem cK (A:Nat):(a7 A).length ≤ 62:=by
 unfold a7;rw [List.length_map]; exact Nat.le_trans (List.length_filter_le _ _) (by simp)
def dG (A : List Nat) (i : Nat) : List Nat := (A.drop (i * 6)).take 6
theorem fM {A:List Nat}{i v n:Nat}(hA:A.length = n * 6) (hi:i < n) (hv:v < 6):(dG A i)[v]! = A[i * 6 + v]!:=by
 have h2 : i * 6 + v < A.length := by omega
 rw [aY _ _ h2,aY _ _ (by unfold dG;simp;omega)]
 unfold dG;simp
theorem gE {A:List Nat}{i n:Nat}(hA:A.length = n * 6) (hi:i < n):(dG A i).length = 6 := by unfold dG;simp;omega
theorem kJ {ts:List Int}{pts:List Pnt}(w:WG ts pts){i v l:Nat}{f:List Nat}(hi:i < pts.length) (hv:v < 6) (hf:f.length = 6) :
  (AB ts pts i f)[v]!.testBit l = true ↔ (aQ pts[i]! ≠ v ∧ aV ts pts[i]! v ≠ 2 ∧ f[v]!.testBit l = true) ∨
   (aQ pts[i]! = v ∧ ((b9 pts[i]! = true ∧ l = i) ∨ (((b9 pts[i]! = true ∧ kQ ts[pts[i]!.y.toNat]! = true) ∨ pts[i]!.op = 3) ∧ f[pts[i]!.y.toNat]!.testBit l = true))) := by
 have hst := w.set i hi
 have htl := w.tl
 have hclr : ∀ q : Nat, (oU (a7 (wS ts pts[i]! [2])) f)[q]! = if aV ts pts[i]! q = 2 then 0 else f[q]! := by
  intro q
  rw [zZ]
  have : (∃ z ∈ a7 (wS ts pts[i]! [2]), z.toNat = q) ↔ aV ts pts[i]! q = 2 := by
   constructor
   ·rintro ⟨z, hz, rfl⟩
    obtain ⟨q,h1,h2,rfl⟩ := cJ.1 hz
    rw [cC] at h2
    simpa using (by simpa using h2 : q < ts.length ∧ aV ts pts[i]! (q : Int) = 2).2
   ·intro h
    have := BY w hi (v := q) (by omega)
    exact ⟨(q : Int),cJ.2 ⟨q,by omega,by rw [cC,Bool.and_eq_true,decide_eq_true_eq,decide_eq_true_eq]; exact ⟨this,by simp only [List.mem_singleton]; exact h⟩,rfl⟩,rfl⟩
  by_cases h : aV ts pts[i]! q = 2
  ·rw [if_pos (this.2 h),if_pos h]
  ·rw [if_neg (fun q => h (this.1 q)),if_neg h]
 have hul : (oU (a7 (wS ts pts[i]! [2])) f).length = 6 := by rw [qC,hf]
 unfold AB
 dsimp only
 generalize oU (a7 (wS ts pts[i]! [2])) f = u at hclr hul
 by_cases hneg : aQ pts[i]! < 0
 ·rw [if_pos hneg, hclr]
  by_cases h2 : aV ts pts[i]! v = 2
  ·rw [if_pos h2, Nat.zero_testBit]
   constructor
   ·intro h;cases h
   ·rintro (h | h)
    ·exact absurd h2 h.2.1
    ·omega
  ·rw [if_neg h2]
   constructor
   ·intro h;exact .inl ⟨by omega,h2,h⟩
   ·rintro (h | h)
    ·exact h.2.2
    ·omega
 ·rw [if_neg hneg]
  have hsv : (aQ pts[i]!).toNat < 6 := by omega
  have heq : ∀ q : Nat,q = (aQ pts[i]!).toNat ↔ aQ pts[i]! = q := by intro q;omega
  -- the slot before the last step
  have hu2 : ∀ q : Nat, (if b9 pts[i]! = true then (u.set (aQ pts[i]!).toNat 0).set (aQ pts[i]!).toNat (2 ^ i) else u.set (aQ pts[i]!).toNat 0)[q]! = if q = (aQ pts[i]!).toNat then (if b9 pts[i]! = true then 2 ^ i else 0) else u[q]! := by
   intro q
   by_cases hl : b9 pts[i]! = true
   ·rw [if_pos hl, if_pos hl, dF _ _ _ _ (by rw [List.length_set]; omega), dF _ _ _ _ (by omega)]
    split <;> rfl
   ·rw [if_neg hl,if_neg hl,dF _ _ _ _ (by omega)]
  have hu2l : (if b9 pts[i]! = true then (u.set (aQ pts[i]!).toNat 0).set (aQ pts[i]!).toNat (2 ^ i) else u.set (aQ pts[i]!).toNat 0).length = 6 := by split <;> simp [hul]
  generalize (if b9 pts[i]! = true then (u.set (aQ pts[i]!).toNat 0).set (aQ pts[i]!).toNat (2 ^ i) else u.set (aQ pts[i]!).toNat 0) = u2 at hu2 hu2l
  have hln : ∀ l : Nat, (if b9 pts[i]! = true then 2 ^ i else 0).testBit l = true ↔ b9 pts[i]! = true ∧ l = i := by
   intro l
   have := @testBit_lnB pts i l
   unfold Ou at this
   rw [this]; simp
  by_cases hc : (b9 pts[i]! = true ∧ kQ ts[pts[i]!.y.toNat]! = true) ∨ pts[i]!.op = 3
  ·rw [if_pos hc, dF _ _ _ _ (by omega)]
   by_cases hv2 : v = (aQ pts[i]!).toNat
   ·have hs := (heq v).1 hv2
    rw [if_pos hv2,← hv2,hu2,if_pos hv2,Nat.testBit_or,Bool.or_eq_true,hln]
    constructor
    ·rintro (h | h)
     ·exact .inr ⟨hs,.inl h⟩
     ·exact .inr ⟨hs,.inr ⟨hc,h⟩⟩
    ·rintro (h | ⟨_, h | h⟩)
     ·exact absurd hs h.1
     ·exact .inl h
     ·exact .inr h.2
   ·have hs : aQ pts[i]! ≠ v := fun h => hv2 ((heq v).2 h)
    rw [if_neg hv2,hu2,if_neg hv2,hclr]
    by_cases h2 : aV ts pts[i]! v = 2
    ·rw [if_pos h2, Nat.zero_testBit]
     constructor
     ·intro h;cases h
     ·rintro (h | h)
      ·exact absurd h2 h.2.1
      ·exact absurd h.1 hs
    ·rw [if_neg h2]
     constructor
     ·intro h;exact .inl ⟨hs,h2,h⟩
     ·rintro (h | h)
      ·exact h.2.2
      ·exact absurd h.1 hs
  ·rw [if_neg hc, hu2]
   by_cases hv2 : v = (aQ pts[i]!).toNat
   ·have hs := (heq v).1 hv2
    rw [if_pos hv2,hln]
    constructor
    ·intro h;exact .inr ⟨hs,.inl h⟩
    ·rintro (h | ⟨_, h | h⟩)
     ·exact absurd hs h.1
     ·exact h
     ·exact absurd h.1 hc
   ·have hs : aQ pts[i]! ≠ v := fun h => hv2 ((heq v).2 h)
    rw [if_neg hv2,hclr]
    by_cases h2 : aV ts pts[i]! v = 2
    ·rw [if_pos h2, Nat.zero_testBit]
     constructor
     ·intro h;cases h
     ·rintro (h | h)
      ·exact absurd h2 h.2.1
      ·exact absurd h.1 hs
    ·rw [if_neg h2]
     constructor
     ·intro h;exact .inl ⟨hs,h2,h⟩
     ·rintro (h | h)
      ·exact h.2.2
      ·exact absurd h.1 hs
def Rg (ts : List Int) (pts : List Pnt) (i v A : Nat) : Prop := A < 2 ^ pts.length ∧ ∀ l,A.testBit l = true → Lk ts pts (i,v,l)
def SF (ts : List Int) (pts : List Pnt) (s : List Nat) : Prop := s.length = pts.length * 6 ∧ ∀ i v,i < pts.length → v < 6 → Rg ts pts i v s[i * 6 + v]!
def sQ (ts : List Int) (pts : List Pnt) (A : List Nat) : Prop := A.length = pts.length * 6 ∧ ∀ i v,i < pts.length → v < 6 → ∀ l,A[i * 6 + v]!.testBit l = true ↔ Lk ts pts (i,v,l)
theorem GX {ts:List Int}{pts:List Pnt}{A B:List Nat}(h1:sQ ts pts A) (h2:sQ ts pts B):A = B:=by
 refine lH h1.1 h2.1 fun q hq v => ?_
 have e : q = q / 6 * 6 + q % 6 := by omega
 have h3 : q / 6 < pts.length := by omega
 have h4 : q % 6 < 6 := by omega
 have a := h1.2 (q / 6) (q % 6) h3 h4 v
 have b := h2.2 (q / 6) (q % 6) h3 h4 v
 rw [← e] at a b
 exact a.trans b.symm
def qW (a : List Nat) (k : Nat) (s : List Nat × Bool) (v : Nat) : List Nat × Bool := l7 oW a[v]! s (k * 6 + v)
def w8 (a : List Nat) (s : List Nat × Bool) (k : Nat) : List Nat × Bool := (List.range 6).foldl (qW a k) s
def D7 (ts : List Int) (pts : List Pnt) (s : List Nat × Bool) (i : Nat) : List Nat × Bool := (wQ pts i).foldl (w8 (AB ts pts i (dG s.1 i))) s
def Jb (ts : List Int) (pts : List Pnt) (s : List Nat × Bool) : List Nat × Bool := (List.range pts.length).foldl (D7 ts pts) s
theorem I0 {a b n:Nat}(h1:a < 2 ^ n) (h2:b < 2 ^ n):a ||| b < 2 ^ n := Nat.or_lt_two_pow h1 h2
theorem EK {ts:List Int}{pts:List Pnt}(w:WG ts pts){s:List Nat}(h:SF ts pts s){i k v:Nat}(e:cO pts i k) (hv:v < 6):Rg ts pts k v (AB ts pts i (dG s i))[v]!:=by
 have hi := e.1
 have hrl := gE h.1 hi
 have htl := w.tl
 have key : ∀ l, (AB ts pts i (dG s i))[v]!.testBit l = true → l < pts.length ∧ Lk ts pts (k, v, l) := by
  intro l hl
  rw [kJ w hi hv hrl] at hl
  rcases hl with ⟨h1,h2,h3⟩ | ⟨h1,⟨h2,rfl⟩ | ⟨h2,h3⟩⟩
  ·rw [fM h.1 hi hv] at h3
   have hp := h.2 i v hi hv
   exact ⟨cT hp.1 h3,.step (hp.2 l h3) ⟨rfl,e,.inl ⟨h1,rfl,h2⟩⟩⟩
  ·exact ⟨hi,.base ⟨e,h2,h1⟩⟩
  ·have hy : 0 ≤ pts[i]!.y ∧ pts[i]!.y < ts.length := by
    have := w.y i hi
    rcases h2 with ⟨h2,_⟩|h2
    ·have := pI h2;omega
    ·omega
   have hy6 : pts[i]!.y.toNat < 6 := by omega
   rw [fM h.1 hi hy6] at h3
   have hp := h.2 i _ hi hy6
   exact ⟨cT hp.1 h3,.step (hp.2 l h3) ⟨rfl,e,.inr ⟨h1,by show ((pts[i]!.y.toNat : Nat) : Int) = pts[i]!.y;omega,h2⟩⟩⟩
 refine ⟨?_,fun l hl => (key l hl).2⟩
 apply Nat.lt_pow_two_of_testBit
 intro l hl
 cases hq : (AB ts pts i (dG s i))[v]!.testBit l with
 | false => rfl
 | true => have := (key l hq).1;omega
theorem CB {ts:List Int}{pts:List Pnt}{a:List Nat}{k:Nat}(hk:k < pts.length) (ha:∀ v,v < 6 → Rg ts pts k v a[v]!) (s:List Nat) (b:Bool) (v:Nat) (hv:v < 6) (h:SF ts pts s) :
  SF ts pts (qW a k (s,b) v).1 ∧ ((qW a k (s,b) v = (s,b) ∧ oW s[k * 6 + v]! a[v]! = s[k * 6 + v]!) ∨ ((qW a k (s,b) v).2 = true ∧ fH ((qW a k (s,b) v).1.map (fun x => 2 ^ pts.length - x)) < fH (s.map (fun x => 2 ^ pts.length - x)))) := by
 unfold qW l7
 dsimp only
 have hq : k * 6 + v < s.length := by rw [h.1]; omega
 have hp := h.2 k v hk hv
 by_cases hc : oW s[k * 6 + v]! a[v]! ≠ s[k * 6 + v]!
 ·rw [if_pos hc]
  have hb := I0 hp.1 (ha v hv).1
  refine ⟨⟨by simp [h.1],fun i u hi hu => ?_⟩,.inr ⟨rfl,?_⟩⟩
  ·dsimp only
   rw [dF _ _ _ _ hq]
   split
   ·rename_i e
    obtain rfl : i = k := by omega
    obtain rfl : u = v := by omega
    refine ⟨hb,fun l hl => ?_⟩
    rw [Nat.testBit_or,Bool.or_eq_true] at hl
    rcases hl with hl|hl
    ·exact hp.2 l hl
    ·exact (ha _ hv).2 l hl
   ·exact h.2 i u hi hu
  ·have h1 := pQ (fun x => 2 ^ pts.length - x) s (k * 6 + v) (oW s[k * 6 + v]! a[v]!) hq
   have h2 := mW hc
   dsimp only at h1 ⊢
   have h3 : oW s[k * 6 + v]! a[v]! < 2 ^ pts.length := hb
   have h4 : s[k * 6 + v]! < oW s[k * 6 + v]! a[v]! := h2
   omega
 ·rw [if_neg hc]
  exact ⟨h,.inl ⟨rfl,Classical.not_not.1 hc⟩⟩
theorem JT {ts:List Int}{pts:List Pnt}{a:List Nat}{k:Nat}(hk:k < pts.length) (ha:∀ v,v < 6 → Rg ts pts k v a[v]!) (s:List Nat) (b:Bool) (h:SF ts pts s) :
  SF ts pts (w8 a (s,b) k).1 ∧ ((w8 a (s,b) k = (s,b) ∧ ∀ v,v < 6 → oW s[k * 6 + v]! a[v]! = s[k * 6 + v]!) ∨ ((w8 a (s,b) k).2 = true ∧ fH ((w8 a (s,b) k).1.map (fun x => 2 ^ pts.length - x)) < fH (s.map (fun x => 2 ^ pts.length - x)))) := by
 have := jS (qW a k) (fun v s => oW s[k * 6 + v]! a[v]! = s[k * 6 + v]!) (fun s => fH (s.map (fun x => 2 ^ pts.length - x))) (SF ts pts) (List.range 6)
  (fun s' b' v hv hs => CB hk ha s' b' v (List.mem_range.1 hv) hs) s b h
 refine ⟨this.1,?_⟩
 rcases this.2 with ⟨e1,e2⟩|h2
 ·exact .inl ⟨e1,fun v hv => e2 v (List.mem_range.2 hv)⟩
 ·exact .inr h2
theorem Jk {ts:List Int}{pts:List Pnt}(w:WG ts pts) (s:List Nat) (b:Bool) (i:Nat) (hi:i < pts.length) (h:SF ts pts s) :
  SF ts pts (D7 ts pts (s, b) i).1 ∧ ((D7 ts pts (s, b) i = (s, b) ∧ ∀ k, cO pts i k → ∀ v, v < 6 → oW s[k * 6 + v]! (AB ts pts i (dG s i))[v]! = s[k * 6 + v]!) ∨
   ((D7 ts pts (s,b) i).2 = true ∧ fH ((D7 ts pts (s,b) i).1.map (fun x => 2 ^ pts.length - x)) < fH (s.map (fun x => 2 ^ pts.length - x)))) := by
 have := jS (w8 (AB ts pts i (dG s i))) (fun k s' => ∀ v, v < 6 → oW s'[k * 6 + v]! (AB ts pts i (dG s i))[v]! = s'[k * 6 + v]!) (fun s => fH (s.map (fun x => 2 ^ pts.length - x))) (SF ts pts) (wQ pts i)
  (fun s' b' k hk hs => by
   have e := (qN w hi).1 hk
   exact JT (cZ w e) (fun v hv => EK w h e hv) s' b' hs) s b h
 refine ⟨this.1,?_⟩
 rcases this.2 with ⟨e1,e2⟩|h2
 ·exact .inl ⟨e1,fun k e => e2 k ((qN w hi).2 e)⟩
 ·exact .inr h2
def A4 (ts : List Int) (pts : List Pnt) (s : List Nat) : Prop := ∀ i k,cO pts i k → ∀ v,v < 6 → oW s[k * 6 + v]! (AB ts pts i (dG s i))[v]! = s[k * 6 + v]!
theorem Il {ts:List Int}{pts:List Pnt}(w:WG ts pts) (s:List Nat) (b:Bool) (h:SF ts pts s) :
  SF ts pts (Jb ts pts (s,b)).1 ∧ ((Jb ts pts (s,b) = (s,b) ∧ A4 ts pts s) ∨ ((Jb ts pts (s,b)).2 = true ∧ fH ((Jb ts pts (s,b)).1.map (fun x => 2 ^ pts.length - x)) < fH (s.map (fun x => 2 ^ pts.length - x)))) := by
 have := jS (D7 ts pts) (fun i s => ∀ k, cO pts i k → ∀ v, v < 6 → oW s[k * 6 + v]! (AB ts pts i (dG s i))[v]! = s[k * 6 + v]!) (fun s => fH (s.map (fun x => 2 ^ pts.length - x))) (SF ts pts) (List.range pts.length)
  (fun s' b' i hi hs => Jk w s' b' i (List.mem_range.1 hi) hs) s b h
 refine ⟨this.1,?_⟩
 rcases this.2 with ⟨e1,e2⟩|h2
 ·exact .inl ⟨e1,fun i k e => e2 i (List.mem_range.2 e.1) k e⟩
 ·exact .inr h2
theorem FD {ts:List Int}{pts:List Pnt}(w:WG ts pts){a:Nat × Nat × Nat}(h:Lk ts pts a):a.1 < pts.length ∧ a.2.1 < ts.length ∧ a.2.2 < pts.length:=by
 induction h with
 | @base a h =>
  have h1 := (w.set _ h.1.1).1
  have h2 := h.2.2
  exact ⟨cZ w h.1,by omega,h.1.1⟩
 | @step a b _ r ih =>
  refine ⟨cZ w r.2.1,?_,by rw [r.1]; exact ih.2.2⟩
  rcases r.2.2 with ⟨_,h,_⟩ | ⟨h,_⟩
  ·rw [h]; exact ih.2.1
  ·have h1 := (w.set _ r.2.1.1).1
   omega
theorem K3 {ts:List Int}{pts:List Pnt}(w:WG ts pts){A:List Nat}(h:SF ts pts A) (hc:A4 ts pts A):sQ ts pts A:=by
 refine ⟨h.1,fun i v hi hv l => ⟨fun hl => (h.2 i v hi hv).2 l hl,fun hm => ?_⟩⟩
 have htl := w.tl
 have key : ∀ a : Nat × Nat × Nat, Lk ts pts a → A[a.1 * 6 + a.2.1]!.testBit a.2.2 = true ∧ a.2.1 < ts.length := by
  refine Clo.sub (T := fun a : Nat × Nat × Nat => A[a.1 * 6 + a.2.1]!.testBit a.2.2 = true ∧ a.2.1 < ts.length) ?_ ?_
  ·rintro ⟨k, v, l⟩ ⟨e, hl, hs⟩
   dsimp only at e hl hs ⊢
   have h1 := (w.set _ e.1).1
   have hv : v < 6 := by omega
   refine ⟨fX.1 (hc l k e v hv) l ?_,by omega⟩
   rw [kJ w e.1 hv (gE h.1 e.1)]
   exact .inr ⟨hs,.inl ⟨hl,rfl⟩⟩
  ·rintro ⟨i, v, l⟩ ⟨k, v', l'⟩ ⟨ht, hv⟩ ⟨rfl, e, hd⟩
   dsimp only at ht hv e hd ⊢
   have h1 := (w.set _ e.1).1
   rcases hd with ⟨g1,rfl,g3⟩ | ⟨g1,g2,g3⟩
   ·refine ⟨fX.1 (hc i k e v' (by omega)) l' ?_, hv⟩
    rw [kJ w e.1 (by omega) (gE h.1 e.1),fM h.1 e.1 (by omega)]
    exact .inl ⟨g1,g3,ht⟩
   ·refine ⟨fX.1 (hc i k e v' (by omega)) l' ?_, by omega⟩
    rw [kJ w e.1 (by omega) (gE h.1 e.1)]
    have : pts[i]!.y.toNat = v := by omega
    rw [this,fM (v := v) h.1 e.1 (by omega)]
    exact .inr ⟨g1,.inr ⟨g3,ht⟩⟩
 exact (key (i,v,l) hm).1
theorem OH {ts:List Int}{pts:List Pnt}:SF ts pts (List.replicate (pts.length * 6) 0):=by
 refine ⟨by simp,fun i v hi hv => ?_⟩
 rw [aY _ _ (by simp;omega),List.getElem_replicate]
 exact ⟨Nat.pow_pos (by decide),fun l h => by simp at h⟩
theorem Oc {ts:List Int}{pts:List Pnt}(w:WG ts pts){s:List Nat}(h:SF ts pts s) (q:Nat):Sm s[q]!:=by
 have hpl := w.pl
 by_cases hq : q < s.length
 ·have e : q = q / 6 * 6 + q % 6 := by omega
  have := h.1
  have := (h.2 (q / 6) (q % 6) (by omega) (by omega)).1
  rw [← e] at this
  exact ⟨Nat.lt_of_lt_of_le this (Nat.pow_le_pow_right (by decide) (by omega))⟩
 ·rw [getElem!_neg s q hq]; exact ⟨by decide⟩
theorem yM (a:List Nat) (k v:Nat) (s:List Nat × Bool):(List.range (v + 1)).foldl (qW a k) s = qW a k ((List.range v).foldl (qW a k) s) v := dW _ _ _
theorem G8 {a:List Nat}{pts:List Pnt}{i j:Nat}(h:j < pts[i]!.next.length) (s:List Nat × Bool) :
  ((wQ pts i).take (j + 1)).foldl (w8 a) s = w8 a (((wQ pts i).take j).foldl (w8 a) s) (pts[i]!.next[j]!).toNat := by
 rw [dR _ _ _ _ (by rw [l5]; exact h),AF h]
section
theorem l6 {e:Nat}(hM:Nat.blt n a6 = true) (hN:Nat.blt d N = true) (kk:RW P N all Q .txt rest ⟨(d,.own n 0 0 e) :: ts,(n,some []) :: hs,n + 1,z0⟩) :
  RW P N all Q .txt (⟨some d,.assign (.const (.slice none 0 0)),ty,pos,af,none⟩ :: rest) ⟨ts,hs,n,z0⟩ := by
 refine yF (av := .v (.slice none 0 0)) rfl hN (md' := .txt) (cX kk ((Le.nilOwn (d := d) e (by simp [lO]) (cS hM)).trans ?_))
 refine Le.of (fun t av h => ?_) (fun i c h => h) (Nat.le_refl _) rfl
 show lk ((d,.own n 0 0 e) :: (d,.v (.slice none 0 0)) :: ts) t = _
 have h' : lk ((d,.own n 0 0 e) :: ts) t = some av := h
 simp only [lO] at h' ⊢
 split
 ·rename_i q;rw [if_pos q] at h'; exact h'
 ·rename_i q;rw [if_neg q] at h'; exact h'
theorem DO {xs:List Nat}{t el m:Nat}{x i:Operand}{kk0:IntKind}{k:Int}[ht:SlT P t el] [he:SzT P el 6] (hx:ev (lk ts) x = some (.imm m (flat cW xs)))
  (hi : ev (lk ts) i = some (.v (.int kk0 k))) (hm : 0 ≤ k ∧ k < m) (hN : Nat.blt d N = true) {md' : Md} [hmd : MdA md (rO x ++ rO i) [.inl d] md'] (kk : RW P N all Q md' rest ⟨(d,.iptr (flat cW (xs.drop (k.toNat * 6)))) :: ts,hs,n,z0⟩) :
  RW P N all Q md (⟨some d,.indexAddr t x i,ty,pos,af,none⟩ :: rest) ⟨ts,hs,n,z0⟩ :=
 gG (out := .iptr (flat cW (xs.drop (k.toNat * 6)))) hx hi ht.pf he.pf (by
  simp only [BA]; rw [if_pos hm]
  have := j4 cW (e := 1) xs (k.toNat * 6);rw [Nat.mul_one] at this;rw [this]) (cS hN) (by rw [hmd.pf]; exact kk)
theorem Bo {z:Nat}{t:TypeId}{x:Operand}{xs:List Nat}[ha:AgT P t true] [hz:SzT P t z] (hx:ev (lk ts) x = some (.iptr (flat cW xs))) (hl:z ≤ xs.length) (h0:Nat.blt 0 z = true)
  (hN : Nat.blt d N = true) {md' : Md} [hmd : MdA md (rO x ++ rA (.iptr (flat cW xs))) [.inl d] md'] (kk : RW P N all Q md' rest ⟨(d,.agg (flat cW (xs.take z))) :: ts,hs,n,z0⟩) : RW P N all Q md (⟨some d,.load t x,ty,pos,af,none⟩ :: rest) ⟨ts,hs,n,z0⟩ := by
 have e2 : (flat cW xs).take z = flat cW (xs.take z) := by have := dL cW (e := 1) xs z;rw [Nat.mul_one] at this;exact this
 exact lG (cs := flat cW xs) hx ha.pf hz.pf rfl e2 (by rw [eV,List.length_take]; omega) (by have := cS h0;omega) (cS hN) (by rw [hmd.pf]; exact kk)
end
end Go.AL
