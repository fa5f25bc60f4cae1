/-
 A part of the proofs over this program: rules and contracts of its functions (the rules).
-/
import Derived.Test.YtahdccneecdmmaaGreatE2A03
set_option linter.unusedVariables false
set_option linter.unusedSimpArgs false
namespace Go.AL
open Go.RowKit
variable {P : Program} {N : Nat} {Q : Exit → AS → Prop} {all : Array Oper} {rest : List Oper} {ts : List (Nat × AV)} {hs : List (Nat × Option (List AV))} {n : Nat} {z0 : Lo} {md : Md}
variable {d : Nat} {ty : TypeId} {pos : String} {af : Array Edge}
section
def xI : AV → Option (FuncId × List AV × List AV)
 | .clos (.func k) f c => some (k,f,c)
 | .v (.func (.func k) ⟨[]⟩ ⟨[]⟩) => some (k,[],[])
 | _ => none
theorem El {w:World}{bad:Nat → Prop}{ι:Pl}{av:AV}{y:Value}{k:FuncId}{f c:List AV}(h:xI av = some (k,f,c)) (hy:Rd w bad ι av y) :
  ∃ lf lc : List Value,y = .func (.func k) lf.toArray lc.toArray ∧ RdV w bad ι f lf ∧ RdV w bad ι c lc := by
 unfold xI at h
 split at h
 ·cases h;simpa only [Rd] using hy
 ·cases h;simp only [Rd] at hy;exact ⟨[],[],hy,by simp [RdV],by simp [RdV]⟩
 ·cases h
theorem nU {w:World}{bad:Nat → Prop}{ι:Pl}:∀ {a b:List AV}{la lb:List Value},RdV w bad ι a la → RdV w bad ι b lb → RdV w bad ι (a ++ b) (la ++ lb)
 | [],b,la,lb,h1,h2 => by simp only [RdV] at h1;subst h1;exact h2
 | x :: a, b, la, lb, h1, h2 => by
  simp only [RdV] at h1
  obtain ⟨y,l',rfl,h3,h4⟩ := h1
  simp only [List.cons_append,RdV]
  exact ⟨y,_,rfl,h3,nU h4 h2⟩
theorem CH {k:FuncId}{t:Nat}{args:Array Operand}{tys:Array TypeId}(hc:fN P k = true) (dst:Option Tmp) (a:Act) (w:World){lf lc:List Value}(hy:a.eval (.tmp t) = .func (.func k) lf.toArray lc.toArray) :
  (execOp a.eval ⟨dst,.call ⟨.value (.tmp t),args,tys⟩,ty,pos,af,none⟩).run P w = .ok (.enter k (lf ++ args.toList.map a.eval ++ lc).toArray) w := by
 simp only [execOp,Sem.run_bind,resolve,hy,Deferred.ofValue,Sem.run_pure,Result.andThen_ok,invoke,zT hc]
 congr 2
 apply Array.ext'
 simp
theorem G0 {k:FuncId}{t:Nat}{args:Array Operand}{tys:Array TypeId}{avs f c:List AV}{fv:AV}{r:AV}(hc:fN P k = true) (hx:lk ts t = some fv) (hcl:xI fv = some (k,f,c)) (ha:evL (lk ts) args.toList = some avs)
  (h : PC P k (f ++ avs ++ c) (fun x => x = r)) (hp : bH (f ++ avs ++ c) = true) (hN : d < N)
  (kk : RW P N all Q (md.add (rO (.tmp t) ++ fU args.toList) [.inl d]) rest ⟨(d,r) :: ts,hs,n,z0⟩) : RW P N all Q md (⟨some d,.call ⟨.value (.tmp t),args,tys⟩,ty,pos,af,none⟩ :: rest) ⟨ts,hs,n,z0⟩ := by
 refine jR (rs := rO (.tmp t) ++ fU args.toList) (ws := []) (n' := n) (out := r) rfl (Nat.le_refl _) (.inl rfl) (fun C ι F T H a w K Q' hCN ag hF g gh hK => ?_) (fun x hx => by cases hx;exact hN) kk
 obtain ⟨lf,lc,hy,h1,h2⟩ := El hcl (bV g (x := .tmp t) (ag.l.ev.trans hx))
 simp only [Oper.wp,CH hc _ a w hy,Oper.upon]
 refine (uY h hp gh (nU (nU h1 (jW g (ag.r.evL.trans ha))) h2)).mono ?_
 rintro e w' ⟨v,r',rfl,h2,h3,h4,h5,h6⟩
 subst h2
 exact hK ι w' v (g.carry h5) (h4.less (fun _ _ h => h) (fun j hj => hj.1)).1 h6
theorem fW {k:FuncId}{t:Nat}{args:Array Operand}{tys:Array TypeId}{avs f c:List AV}{fv:AV}{r:AV}(hx:lk ts t = some fv) (hcl:xI fv = some (k,f,c)) (hc:CaT P k) (ha:evL (lk ts) args.toList = some avs)
  (h : PC P k (f ++ avs ++ c) (fun x => x = r)) (hp : bH (f ++ avs ++ c) = true) (hN : Nat.blt d N = true) {md' : Md} [hmd : MdA md (rO (.tmp t) ++ fU args.toList) [.inl d] md']
  (kk : RW P N all Q md' rest ⟨(d,r) :: ts,hs,n,z0⟩) : RW P N all Q md (⟨some d,.call ⟨.value (.tmp t),args,tys⟩,ty,pos,af,none⟩ :: rest) ⟨ts,hs,n,z0⟩ :=
 G0 hc.pf hx hcl ha h hp (dC hN) (by rw [hmd.pf]; exact kk)
theorem lL {fn:Go.Fn}{fs cs:Array Operand}{f c:List AV}(hf:evL (lk ts) fs.toList = some f) (hc:evL (lk ts) cs.toList = some c) (hN:Nat.blt d N = true){md':Md}[hmd:MdA md (fU fs.toList ++ fU cs.toList) [.inl d] md']
  (kk : RW P N all Q md' rest ⟨(d,.clos fn f c) :: ts,hs,n,z0⟩) : RW P N all Q md (⟨some d,.makeFunc fn fs cs,ty,pos,af,none⟩ :: rest) ⟨ts,hs,n,z0⟩ := by
 refine dW (out := .clos fn f c) (rs := fU fs.toList ++ fU cs.toList) rfl rfl (dC hN) (fun C ι F T H a w ag g gh => ?_) (by rw [hmd.pf]; exact kk)
 refine ⟨.func fn (fs.map a.eval) (cs.map a.eval),by simp [execOp,Instr.makeFunc],?_⟩
 simp only [Rd]
 exact ⟨fs.toList.map a.eval,cs.toList.map a.eval,by rw [← Array.toList_map,← Array.toList_map,Array.toArray_toList,Array.toArray_toList],jW g (ag.l.evL.trans hf),jW g (ag.r.evL.trans hc)⟩
end
class Sm (n : Nat) : Prop where pf : n < 2 ^ 62
def nD (a b : Nat) : Nat := a ^^^ (a &&& b)
theorem dE (a b i:Nat):(nD a b).testBit i = (a.testBit i && !b.testBit i):=by
 simp only [nD,Nat.testBit_xor,Nat.testBit_and]; cases a.testBit i <;> cases b.testBit i <;> rfl
instance (a b : Nat) [h : Sm a] [h2 : Sm b] : Sm (a ||| b):=⟨Nat.or_lt_two_pow h.pf h2.pf⟩
instance (a b : Nat) [h : Sm a] : Sm (a &&& b):=⟨Nat.lt_of_le_of_lt Nat.and_le_left h.pf⟩
instance (a b : Nat) [h : Sm a] : Sm (nD a b):=⟨Nat.xor_lt_two_pow h.pf (Nat.lt_of_le_of_lt Nat.and_le_left h.pf)⟩
instance (a b : Nat) [h : Sm a] : Sm (a >>> b):=⟨Nat.lt_of_le_of_lt (by rw [Nat.shiftRight_eq_div_pow]; exact Nat.div_le_self _ _) h.pf⟩
instance : Sm 0:=⟨by decide⟩
instance : Sm 1:=⟨by decide⟩
theorem Sm.pow {k:Nat}(h:k < 62):Sm (2 ^ k) := ⟨Nat.pow_lt_pow_right (by decide) h⟩
class K6 (k : IntKind) : Prop where pf : k = .i64 ∨ k = .u64
instance : K6 .i64:=⟨.inl rfl⟩
instance : K6 .u64:=⟨.inr rfl⟩
theorem rI {k:IntKind}[hk:K6 k] {a:Nat}(h:a < 2 ^ 62):k.wrap (a:Int) = (a:Int):=by
 rcases hk.pf with rfl|rfl
 ·exact zL (by omega)
 ·simp only [IntKind.wrap]
  first
  | (simp [IntKind.bits,IntKind.signed]; omega)
  | omega
theorem Aq {k:IntKind}[hk:K6 k]:k.bits = 64 := by rcases hk.pf with rfl | rfl <;> rfl
theorem kE (a:Nat) (h:a < 2 ^ 62):BitVec.ofInt 64 (a:Int) = BitVec.ofNat 64 a := EF (a:Int) ⟨by omega,by omega⟩
theorem mD (a:Nat) (h:a < 2 ^ 62):(BitVec.ofNat 64 a).toNat = a := by rw [BitVec.toNat_ofNat,Nat.mod_eq_of_lt (by omega)]
theorem KM {k:IntKind}[hk:K6 k] (a b:Nat) [ha:Sm a] [hb:Sm b]:jB .or k a b = some (.int k ((a ||| b:Nat):Int)):=by
 simp only [jB]; rw [Aq,kE a ha.pf,kE b hb.pf,BitVec.toNat_or,mD a ha.pf,mD b hb.pf,rI (Nat.or_lt_two_pow ha.pf hb.pf)]
theorem Bp {k:IntKind}[hk:K6 k] (a b:Nat) [ha:Sm a] [hb:Sm b]:jB .and k a b = some (.int k ((a &&& b:Nat):Int)):=by
 simp only [jB]; rw [Aq,kE a ha.pf,kE b hb.pf,BitVec.toNat_and,mD a ha.pf,mD b hb.pf,rI (Nat.and_lt_two_pow _ hb.pf)]
theorem Gd {k:IntKind}[hk:K6 k] (a b:Nat) [ha:Sm a] [hb:Sm b]:jB .andNot k a b = some (.int k ((nD a b:Nat):Int)):=by
 simp only [jB]
 have e : (BitVec.ofInt 64 (a : Int) &&& ~~~ BitVec.ofInt 64 (b : Int)).toNat = nD a b := by
  rw [kE a ha.pf,kE b hb.pf]
  apply Nat.eq_of_testBit_eq
  intro i
  rw [BitVec.toNat_and,Nat.testBit_and,dE,mD a ha.pf]
  cases h : a.testBit i with
  | false => simp
  | true =>
   have hi : i < 64 := by
    rcases Nat.lt_or_ge i 62 with h1|h1
    ·omega
    ·have := Nat.testBit_lt_two_pow (Nat.lt_of_lt_of_le ha.pf (Nat.pow_le_pow_right (by decide) h1));rw [h] at this;cases this
   rw [← BitVec.getLsbD,BitVec.getLsbD_not,BitVec.getLsbD_ofNat]
   simp [hi]
 rw [Aq,e,rI (inferInstance : Sm (nD a b)).pf]
theorem Fi {k:IntKind}[hk:K6 k] (m:Int) (h:0 ≤ m ∧ m < 62):jB .shl k 1 m = some (.int k ((2 ^ m.toNat:Nat):Int)):=by
 obtain ⟨j,rfl⟩ := Int.eq_ofNat_of_zero_le h.1
 simp only [jB]
 rw [if_neg (by omega),Aq,Int.toNat_natCast,Nat.min_eq_left (by omega),Int.one_mul]
 rw [show ((2 : Int) ^ j) = ((2 ^ j : Nat) : Int) by simp,rI (Sm.pow (by omega)).pf]
theorem Hl {k:IntKind}[hk:K6 k] (a:Nat) [ha:Sm a] (m:Int) (h:0 ≤ m ∧ m < 64):jB .shr k a m = some (.int k ((a >>> m.toNat:Nat):Int)):=by
 obtain ⟨j,rfl⟩ := Int.eq_ofNat_of_zero_le h.1
 simp only [jB]
 rw [if_neg (by omega),Aq,Int.toNat_natCast,Nat.min_eq_left (by omega)]
 congr 2
 rw [Nat.shiftRight_eq_div_pow,Int.fdiv_eq_ediv_of_nonneg _ (by exact Int.le_of_lt (Int.pow_pos (by decide)))]
 simp
section
theorem M9 {k:IntKind}{t t':TypeId}{x y:Operand}{a b:Nat}(hx:ev (lk ts) x = some (.v (.int k (a:Int)))) (hy:ev (lk ts) y = some (.v (.int k (b:Int)))) (hk:K6 k) (ha:Sm a) (hb:Sm b)
  (hN : Nat.blt d N = true) {md' : Md} [hmd : MdA md (rO x ++ rO y) [.inl d] md'] (kk : RW P N all Q md' rest ⟨(d,.v (.int k ((a ||| b : Nat) : Int))) :: ts,hs,n,z0⟩) : RW P N all Q md (⟨some d,.binOp .or t x y t',ty,pos,af,none⟩ :: rest) ⟨ts,hs,n,z0⟩ :=
 gP hx hy (.inl rfl) (KM a b) (dC hN) (by rw [hmd.pf]; exact kk)
theorem JQ {k:IntKind}{t t':TypeId}{x y:Operand}{a b:Nat}(hx:ev (lk ts) x = some (.v (.int k (a:Int)))) (hy:ev (lk ts) y = some (.v (.int k (b:Int)))) (hk:K6 k) (ha:Sm a) (hb:Sm b)
  (hN : Nat.blt d N = true) {md' : Md} [hmd : MdA md (rO x ++ rO y) [.inl d] md'] (kk : RW P N all Q md' rest ⟨(d,.v (.int k ((a &&& b : Nat) : Int))) :: ts,hs,n,z0⟩) : RW P N all Q md (⟨some d,.binOp .and t x y t',ty,pos,af,none⟩ :: rest) ⟨ts,hs,n,z0⟩ :=
 gP hx hy (.inl rfl) (Bp a b) (dC hN) (by rw [hmd.pf]; exact kk)
theorem I8 {k:IntKind}{t t':TypeId}{x y:Operand}{a b:Nat}(hx:ev (lk ts) x = some (.v (.int k (a:Int)))) (hy:ev (lk ts) y = some (.v (.int k (b:Int)))) (hk:K6 k) (ha:Sm a) (hb:Sm b)
  (hN : Nat.blt d N = true) {md' : Md} [hmd : MdA md (rO x ++ rO y) [.inl d] md'] (kk : RW P N all Q md' rest ⟨(d,.v (.int k ((nD a b : Nat) : Int))) :: ts,hs,n,z0⟩) : RW P N all Q md (⟨some d,.binOp .andNot t x y t',ty,pos,af,none⟩ :: rest) ⟨ts,hs,n,z0⟩ :=
 gP hx hy (.inl rfl) (Gd a b) (dC hN) (by rw [hmd.pf]; exact kk)
theorem jN {k k':IntKind}{t t':TypeId}{x y:Operand}{m:Int}(hx:ev (lk ts) x = some (.v (.int k 1))) (hy:ev (lk ts) y = some (.v (.int k' m))) (hk:K6 k) (h:0 ≤ m ∧ m < 62)
  (hN : Nat.blt d N = true) {md' : Md} [hmd : MdA md (rO x ++ rO y) [.inl d] md'] (kk : Sm (2 ^ m.toNat) → RW P N all Q md' rest ⟨(d,.v (.int k ((2 ^ m.toNat : Nat) : Int))) :: ts,hs,n,z0⟩) : RW P N all Q md (⟨some d,.binOp .shl t x y t',ty,pos,af,none⟩ :: rest) ⟨ts,hs,n,z0⟩ :=
 gP hx hy (.inr (.inl rfl)) (Fi m h) (dC hN) (by rw [hmd.pf]; exact kk (Sm.pow (by omega)))
theorem JP {k k':IntKind}{t t':TypeId}{x y:Operand}{a:Nat}{m:Int}(hx:ev (lk ts) x = some (.v (.int k (a:Int)))) (hy:ev (lk ts) y = some (.v (.int k' m))) (hk:K6 k) (ha:Sm a) (h:0 ≤ m ∧ m < 64)
  (hN : Nat.blt d N = true) {md' : Md} [hmd : MdA md (rO x ++ rO y) [.inl d] md'] (kk : RW P N all Q md' rest ⟨(d,.v (.int k ((a >>> m.toNat : Nat) : Int))) :: ts,hs,n,z0⟩) : RW P N all Q md (⟨some d,.binOp .shr t x y t',ty,pos,af,none⟩ :: rest) ⟨ts,hs,n,z0⟩ :=
 gP hx hy (.inr (.inr rfl)) (Hl a m h) (dC hN) (by rw [hmd.pf]; exact kk)
end
mutual
def n6 : Stmt → Nat
 | .mk op _ _ _ th el => if op = 9 then 2 + cR th + cR el else if op = 10 then 2 + cR th else 1
def cR : List Stmt → Nat
 | [] => 0
 | s :: l => n6 s + cR l
end
mutual
def uH (b : Nat) : Stmt → List Pnt
 | .mk op x y n th el =>
  if op = 9 then [⟨9,0,0,0,[(b : Int) + 1,(b : Int) + 1 + cR th + 1]⟩] ++ fD (b + 1) th ++ [⟨10,0,0,1,[(b : Int) + 2 + cR th + cR el]⟩] ++ fD (b + 2 + cR th) el
  else if op = 10 then [⟨10,0,0,0,[(b : Int) + 1,(b : Int) + 2 + cR th]⟩] ++ fD (b + 1) th ++ [⟨10,0,0,1,[(b : Int)]⟩]
  else [⟨op,x,y,n,[(b : Int) + 1]⟩]
def fD (b : Nat) : List Stmt → List Pnt
 | [] => []
 | s :: l => uH b s ++ fD (b + n6 s) l
end
mutual
theorem Dd:∀ (s:Stmt) (b:Nat),(uH b s).length = n6 s
 | .mk op x y n th el, b => by
  have h1 := bJ th (b + 1)
  have h2 := bJ el (b + 2 + cR th)
  simp only [uH,n6]
  split
  ·simp [h1,h2]; omega
  ·split
   ·simp [h1]; omega
   ·simp
theorem bJ:∀ (l:List Stmt) (b:Nat),(fD b l).length = cR l
 | [],b => by simp [fD,cR]
 | s :: l,b => by simp only [fD,cR,List.length_append,Dd s b,bJ l (b + n6 s)]
end
mutual
theorem MS:∀ (s:Stmt),n6 s ≤ 2 * dY s
 | .mk op x y n th el => by
  have h1 := lC th
  have h2 := lC el
  simp only [n6,dY]; split
  ·omega
  ·split <;> omega
theorem lC:∀ (l:List Stmt),cR l ≤ 2 * aU l
 | [] => by simp [cR,aU]
 | s :: l => by have h1 := MS s;have h2 := lC l;simp only [cR,aU]; omega
end
theorem nN:∀ a b,cR (a ++ b) = cR a + cR b
 | [],b => by simp [cR]
 | s :: a,b => by simp only [List.cons_append,cR,nN a b]; omega
theorem uE:∀ (a b:List Stmt) (k:Nat),fD k (a ++ b) = fD k a ++ fD (k + cR a) b
 | [],b,k => by simp [fD,cR]
 | s :: a,b,k => by simp only [List.cons_append,fD,cR,uE a b,List.append_assoc,Nat.add_assoc]
theorem fT (l:List Stmt) (b k:Nat) (hk:k < l.length):fD b (l.take (k + 1)) = fD b (l.take k) ++ uH (b + cR (l.take k)) l[k]!:=by
 rw [b0 _ _ hk,uE]; simp [fD]
theorem eX (l:List Stmt) (k:Nat) (hk:k < l.length):cR (l.take (k + 1)) = cR (l.take k) + n6 l[k]!:=by
 rw [b0 _ _ hk,nN]; simp [cR]
theorem Ba (l:List Stmt) (k:Nat):cR (l.take k) ≤ cR l:=by
 conv => rhs;rw [← List.take_append_drop k l]
 rw [nN]; omega
theorem wZ (s:Stmt):n6 s = if s.op = 9 then 2 + cR s.th + cR s.el else if s.op = 10 then 2 + cR s.th else 1:=by
 cases s;simp only [n6,Stmt.op,Stmt.th,Stmt.el]; rfl
theorem iD (b:Nat) (s:Stmt):uH b s = if s.op = 9 then [⟨9,0,0,0,[(b:Int) + 1,(b:Int) + 1 + cR s.th + 1]⟩] ++ fD (b + 1) s.th ++ [⟨10,0,0,1,[(b:Int) + 2 + cR s.th + cR s.el]⟩] ++ fD (b + 2 + cR s.th) s.el
  else if s.op = 10 then [⟨10,0,0,0,[(b : Int) + 1,(b : Int) + 2 + cR s.th]⟩] ++ fD (b + 1) s.th ++ [⟨10,0,0,1,[(b : Int)]⟩]
  else [⟨s.op,s.x,s.y,s.n,[(b : Int) + 1]⟩] := by
 cases s;simp only [uH,Stmt.op,Stmt.th,Stmt.el,Stmt.x,Stmt.y,Stmt.n]; rfl
def aC (p : Prg) : List Pnt := fD 0 p.body ++ [⟨11,0,0,0,[]⟩]
theorem lH (p:Prg):(aC p).length = cR p.body + 1 := by simp [aC,bJ]
theorem fK {α:Type}{f:α → List AV}{e:Nat}[h:FlT f e] {xs:List α}{m:Nat}{new:List AV}{y:α}(hm:m = xs.length) (hn:new = f y):((flat f xs).drop 0).take (m * e) ++ new = flat f (xs ++ [y]):=by
 subst hm hn
 rw [List.drop_zero,List.take_of_length_le (by rw [aI f (e := e)]; exact Nat.le_refl _),← cH,lD]
theorem HQ {xs:List Pnt}{m:Nat}{a b c d:Int}(hm:m = xs.length):((flat bZ xs).drop 0).take (m * 5) ++ [iv a,iv b,iv c,iv d,.imm 0 []] = flat bZ (xs ++ [⟨a,b,c,d,[]⟩]) := fK hm rfl
theorem H7 {xs:List Pnt}{m:Nat}{a b c d e:Int}(hm:m = xs.length):((flat bZ xs).drop 0).take (m * 5) ++ [iv a,iv b,iv c,iv d,.imm 1 [iv e]] = flat bZ (xs ++ [⟨a,b,c,d,[e]⟩]) := fK hm rfl
theorem KK {xs:List Int}{m:Nat}{a:Int}(hm:m = xs.length):((flat cI xs).drop 0).take (m * 1) ++ [iv a] = flat cI (xs ++ [a]) := fK hm rfl
theorem Ky (A B C new:List AV) (j:Nat) (hj:j + new.length ≤ B.length):gM (A ++ (B ++ C)) (A.length + j) new = A ++ (gM B j new ++ C):=by
 unfold gM
 rw [List.take_length_add_append,Nat.add_assoc,List.drop_length_add_append,List.take_append_of_le_length (by omega),List.drop_append_of_le_length hj]
 simp only [List.append_assoc]
theorem B3 {α:Type}[Inhabited α] {f:α → List AV}{e:Nat}[h:FlT f e] {xs:List α}{k:Nat}(hk:k < xs.length):flat f xs = flat f (xs.take k) ++ (f xs[k]! ++ flat f (xs.drop (k + 1))):=by
 rw [← eS f (e := e) xs k hk,← dK f (e := e),List.take_append_drop]
theorem fI {α:Type}[Inhabited α] {f:α → List AV}{e:Nat}[h:FlT f e] {xs:List α}{k j:Nat}{new:List AV}{y:α}(hk:k < xs.length) (hj:j + new.length ≤ e) (hy:gM (f xs[k]!) j new = f y):gM (flat f xs) (0 + k * e + j) new = flat f (xs.set k y):=by
 have h3 : (flat f (xs.take k)).length = k * e := by rw [aI f (e := e),List.length_take]; congr 1;omega
 rw [B3 (e := e) hk,Nat.zero_add,← h3,Ky _ _ _ _ _ (by rw [h.pf]; exact hj),hy,List.set_eq_take_append_cons_drop,if_pos hk,← cH]
 simp only [flat,List.flatMap_cons]
theorem fH {α:Type}[Inhabited α] {f:α → List AV}{e:Nat}[h:FlT f e] {xs:List α}{k:Nat}{new:List AV}{y:α}(hk:k < xs.length) (hy:new = f y):gM (flat f xs) (0 + k * e) new = flat f (xs.set k y):=by
 subst hy
 rw [Nat.zero_add]; exact Hq f xs k y hk
theorem Hn {xs:List Pnt}{k:Nat}{a:Int}(hk:k < xs.length):gM (flat bZ xs) (0 + k * 5 + 4) [.imm 1 [iv a]] = flat bZ (xs.set k { xs[k]! with next := [a] }) := fI hk (by simp) rfl
theorem G4 {xs:List Pnt}{k:Nat}{a b:Int}(hk:k < xs.length):gM (flat bZ xs) (0 + k * 5 + 4) [.imm 2 [iv a,iv b]] = flat bZ (xs.set k { xs[k]! with next := [a,b] }) := fI hk (by simp) rfl
theorem M3 {xs:List Int}{k:Nat}{a:Int}(hk:k < xs.length):gM (flat cI xs) (0 + k * 1) [iv a] = flat cI (xs.set k a) := fH hk rfl
theorem yE {xs:List Bool}{k:Nat}{a:Bool}(hk:k < xs.length):gM (flat cB xs) (0 + k * 1) [bv a] = flat cB (xs.set k a) := fH hk rfl
theorem IQ (s:Stmt):s.op = 9 → n6 s = 2 + cR s.th + cR s.el := by intro h;rw [wZ,if_pos h]
theorem BU (s:Stmt):s.op = 10 → n6 s = 2 + cR s.th := by intro h;rw [wZ,if_neg (by omega),if_pos h]
theorem IS (s:Stmt):¬ s.op = 9 → ¬ s.op = 10 → n6 s = 1 := by intro h h2;rw [wZ,if_neg h,if_neg h2]
theorem CN (l:List Stmt) (k:Nat):k < l.length → cR (l.take k) + n6 l[k]! ≤ cR l:=by
 intro h;have := Ba l (k + 1);rw [eX l k h] at this;exact this
theorem rW {α:Type}(A:List α) (x y:α) (B:List α):(A ++ x :: B).set A.length y = A ++ y :: B:=by
 rw [List.set_append_right _ _ (Nat.le_refl _),Nat.sub_self,List.set_cons_zero]
theorem yV {α:Type}[Inhabited α] (A:List α) (x:α) (B:List α):(A ++ x :: B)[A.length]! = x:=by
 rw [aS _ _ (by simp),List.getElem_append_right (Nat.le_refl _)]; simp
theorem xK {xs T E:List Pnt}{p q:Pnt}{m:Nat}(hm:m = xs.length):(xs ++ [p] ++ T ++ [q] ++ E)[m]! = p:=by
 subst hm;simp only [List.append_assoc,List.singleton_append,List.cons_append,List.nil_append]; exact yV _ _ _
theorem xY {xs T E:List Pnt}{p q p':Pnt}{m:Nat}(hm:m = xs.length):(xs ++ [p] ++ T ++ [q] ++ E).set m p' = xs ++ [p'] ++ T ++ [q] ++ E:=by
 subst hm;simp only [List.append_assoc,List.singleton_append,List.cons_append,List.nil_append]; exact rW _ _ _ _
theorem yS {xs T E:List Pnt}{p q:Pnt}{j:Nat}(hj:j = xs.length + 1 + T.length):(xs ++ [p] ++ T ++ [q] ++ E)[j]! = q:=by
 have h : j = (xs ++ [p] ++ T).length := by simp [hj]; omega
 subst h
 rw [show xs ++ [p] ++ T ++ [q] ++ E = (xs ++ [p] ++ T) ++ q :: E by simp]; exact yV _ _ _
theorem xA {xs T E:List Pnt}{p q q':Pnt}{j:Nat}(hj:j = xs.length + 1 + T.length):(xs ++ [p] ++ T ++ [q] ++ E).set j q' = xs ++ [p] ++ T ++ [q'] ++ E:=by
 have h : j = (xs ++ [p] ++ T).length := by simp [hj]; omega
 subst h
 rw [show xs ++ [p] ++ T ++ [q] ++ E = (xs ++ [p] ++ T) ++ q :: E by simp,rW]; simp
theorem B4 {xs T:List Pnt}{p q:Pnt}{m:Nat}(hm:m = xs.length):(xs ++ [p] ++ T ++ [q])[m]! = p:=by
 subst hm;simp only [List.append_assoc,List.singleton_append,List.cons_append,List.nil_append]; exact yV _ _ _
theorem BD {xs T:List Pnt}{p q p':Pnt}{m:Nat}(hm:m = xs.length):(xs ++ [p] ++ T ++ [q]).set m p' = xs ++ [p'] ++ T ++ [q]:=by
 subst hm;simp only [List.append_assoc,List.singleton_append,List.cons_append,List.nil_append]; exact rW _ _ _ _
structure WG (ts : List Int) (pts : List Pnt) : Prop where
 tl : ts.length ≤ 6
 ty : ∀ v,v < ts.length → 1 ≤ ts[v]! ∧ ts[v]! ≤ 4
 pl : pts.length ≤ 61
 p0 : 0 < pts.length
 nx : ∀ i,i < pts.length → ∀ k ∈ pts[i]!.next,0 ≤ k ∧ k < pts.length
 nl : ∀ i,i < pts.length → pts[i]!.next.length ≤ 2
 op : ∀ i,i < pts.length → 1 ≤ pts[i]!.op ∧ pts[i]!.op ≤ 11
 x : ∀ i,i < pts.length → 0 ≤ pts[i]!.x ∧ (pts[i]!.op ≤ 8 → pts[i]!.x < ts.length)
 y : ∀ i,i < pts.length → 0 ≤ pts[i]!.y ∧ (3 ≤ pts[i]!.op → pts[i]!.op ≤ 7 → pts[i]!.y < ts.length)
def Ny (nv b e : Nat) (x : Pnt) : Prop := (∀ k ∈ x.next,0 ≤ k ∧ k < (e : Int)) ∧ x.next.length ≤ 2 ∧ 1 ≤ x.op ∧ x.op ≤ 11 ∧ 0 ≤ x.x ∧ (x.op ≤ 8 → x.x < (nv : Int)) ∧ 0 ≤ x.y ∧ (3 ≤ x.op → x.op ≤ 7 → x.y < (nv : Int))
theorem Cm {ts:List Int}(ht:bW ts = true){s:Stmt}(h:dA ts s = true):1 ≤ s.op ∧ s.op ≤ 8 ∧ 0 ≤ s.x ∧ s.x < ts.length ∧ 0 ≤ s.y ∧ (3 ≤ s.op → s.op ≤ 7 → s.y < ts.length):=by
 have hx := rZ ht s.x
 have hy := rZ ht s.y
 have bx := iG ht s.x
 have by' := iG ht s.y
 unfold dA at h
 dsimp only at h
 repeat' split at h
 all_goals first
  | (simp only [decide_eq_true_eq] at h;omega)
  | (cases h;done)
mutual
theorem My {ts:List Int}(ht:bW ts = true):∀ (s:Stmt) (d b e:Nat),rR ts d s = true → b + n6 s < e → ∀ x ∈ uH b s,Ny ts.length b e x
 | .mk op x y n th el, d, b, e, h, hb => by
  simp only [rR] at h
  split at h
  ·rename_i hop
   simp only [Bool.and_eq_true] at h
   have hs := Cm ht h.2
   simp only [Stmt.op,Stmt.x,Stmt.y] at hs
   simp only [n6,hop.1,hop.2,if_false] at hb
   simp only [uH,hop.1,hop.2,if_false,List.mem_singleton]
   rintro z rfl
   refine ⟨?_,by simp,hs.1,by show op ≤ 11;omega,hs.2.2.1,fun _ => hs.2.2.2.1,hs.2.2.2.2.1,hs.2.2.2.2.2⟩
   simp only [List.mem_singleton]; rintro k rfl;omega
  ·rename_i hop
   cases d with
   | zero => cases h
   | succ d =>
    simp only [Bool.and_eq_true,decide_eq_true_eq] at h
    obtain ⟨⟨⟨_,_⟩,h1⟩,h2⟩ := h
    by_cases h9 : op = 9
    ·subst h9
     simp only [n6,if_true] at hb
     simp only [uH,if_true,List.mem_append,List.mem_singleton]
     rintro z (((rfl|hz)|rfl)|hz)
     ·refine ⟨?_, by simp, by simp, by simp, by simp, by simp, by simp, by simp⟩
      simp only [List.mem_cons,List.not_mem_nil,or_false]; rintro k (rfl|rfl) <;> omega
     ·exact sQ ht th d (b + 1) e h1 (by omega) z hz
     ·refine ⟨?_, by simp, by simp, by simp, by simp, by simp, by simp, by simp⟩
      simp only [List.mem_singleton]; rintro k rfl;omega
     ·exact sQ ht el d (b + 2 + cR th) e h2 (by omega) z hz
    ·have h10 : op = 10 := by omega
     subst h10
     simp only [n6,if_true,show ((10 : Int) = 9) = False by simp,if_false] at hb
     simp only [uH,if_true,show ((10 : Int) = 9) = False by simp,if_false,List.mem_append,List.mem_singleton]
     rintro z ((rfl|hz)|rfl)
     ·refine ⟨?_, by simp, by simp, by simp, by simp, by simp, by simp, by simp⟩
      simp only [List.mem_cons,List.not_mem_nil,or_false]; rintro k (rfl|rfl) <;> omega
     ·exact sQ ht th d (b + 1) e h1 (by omega) z hz
     ·refine ⟨?_, by simp, by simp, by simp, by simp, by simp, by simp, by simp⟩
      simp only [List.mem_singleton]; rintro k rfl;omega
theorem sQ {ts:List Int}(ht:bW ts = true):∀ (l:List Stmt) (d b e:Nat),okL ts d l = true → b + cR l < e → ∀ x ∈ fD b l,Ny ts.length b e x
 | [],d,b,e,h,hb => by simp [fD]
 | s :: l, d, b, e, h, hb => by
  simp only [okL,Bool.and_eq_true] at h
  simp only [cR] at hb
  simp only [fD,List.mem_append]
  rintro x (hx|hx)
  ·exact My ht s d b e h.1 (by omega) x hx
  ·exact sQ ht l d (b + n6 s) e h.2 (by omega) x hx
end
theorem WG.of_valid {p:Prg}(h:bK p = true):WG p.types (aC p):=by
 unfold bK at h
 simp only [Bool.and_eq_true,decide_eq_true_eq] at h
 obtain ⟨⟨ht,hl⟩,hc⟩ := h
 have hn := lC p.body
 have hlen := lH p
 have key : ∀ i, i < (aC p).length → Ny p.types.length 0 (aC p).length (aC p)[i]! := by
  intro i hi
  have hm := aN _ i hi
  unfold aC at hm
  rw [List.mem_append,List.mem_singleton] at hm
  rcases hm with hm|hm
  ·exact sQ ht p.body 4 0 _ hl (by omega) _ hm
  ·unfold aC;rw [hm]; exact ⟨by simp,by simp,by simp,by simp,by simp,by simp,by simp,by simp⟩
 exact ⟨lO ht, nP ht, by omega, by omega, fun i hi => (key i hi).1, fun i hi => (key i hi).2.1, fun i hi => ⟨(key i hi).2.2.1, (key i hi).2.2.2.1⟩,
  fun i hi => ⟨(key i hi).2.2.2.2.1,(key i hi).2.2.2.2.2.1⟩,fun i hi => ⟨(key i hi).2.2.2.2.2.2.1,(key i hi).2.2.2.2.2.2.2⟩⟩
inductive Clo {α : Type} (S : α → Prop) (R : α → α → Prop) : α → Prop
 | base {a : α} (h : S a) : Clo S R a
 | step {a b : α} (h : Clo S R a) (r : R a b) : Clo S R b
theorem Clo.sub {α:Type}{S:α → Prop}{R:α → α → Prop}{T:α → Prop}(h1:∀ a,S a → T a) (h2:∀ a b,T a → R a b → T b):∀ a,Clo S R a → T a:=by
 intro a h
 induction h with
 | base h => exact h1 _ h
 | step _ r ih => exact h2 _ _ ih r
def cE (pts : List Pnt) (i k : Nat) : Prop := i < pts.length ∧ (k : Int) ∈ pts[i]!.next
def Mb (ts : List Int) (pts : List Pnt) (a : Nat × Nat) : Prop := Clo (fun a => ∃ i,cE pts i a.1 ∧ aP pts[i]! = a.2) (fun a b => b.2 = a.2 ∧ cE pts a.1 b.1 ∧ a6 ts pts[a.1]! a.2 ≠ 2) a
def Na (ts : List Int) (pts : List Pnt) (a : Nat × Nat) : Prop := Clo (fun a => a.2 < ts.length ∧ (a.1 = 0 ∨ ∃ i,cE pts i a.1 ∧ a6 ts pts[i]! a.2 = 2 ∧ aP pts[i]! ≠ a.2)) (fun a b => b.2 = a.2 ∧ cE pts a.1 b.1 ∧ aP pts[a.1]! ≠ a.2) a
def Nd (ts : List Int) (pts : List Pnt) (a : Nat × Nat) : Prop := Clo (fun a => a.1 < pts.length ∧ a.2 < ts.length ∧ a6 ts pts[a.1]! a.2 ≠ 0) (fun a b => b.2 = a.2 ∧ cE pts b.1 a.1 ∧ aP pts[b.1]! ≠ a.2) a
def Lv (ts : List Int) (pts : List Pnt) (i v : Nat) : Prop := ∃ k,cE pts i k ∧ Nd ts pts (k,v)
def bY (x : Pnt) : Bool := decide (x.op = 4) || decide (x.op = 5)
def I1 (ts : List Int) (pts : List Pnt) (a : Nat × Nat × Nat) : Prop := Clo (fun a => cE pts a.2.2 a.1 ∧ bY pts[a.2.2]! = true ∧ aP pts[a.2.2]! = a.2.1)
 (fun a b => b.2.2 = a.2.2 ∧ cE pts a.1 b.1 ∧ ((aP pts[a.1]! ≠ b.2.1 ∧ b.2.1 = a.2.1 ∧ a6 ts pts[a.1]! a.2.1 ≠ 2) ∨
  (aP pts[a.1]! = b.2.1 ∧ (a.2.1 : Int) = pts[a.1]!.y ∧ ((bY pts[a.1]! = true ∧ gC ts[a.2.1]! = true) ∨ pts[a.1]!.op = 3)))) a
def Lr (ts : List Int) (pts : List Pnt) (a : Nat × Nat) : Prop := Clo (fun a => cE pts a.2 a.1 ∧ bY pts[a.2]! = true)
 (fun a b => b.2 = a.2 ∧ cE pts a.1 b.1 ∧ a6 ts pts[a.1]! pts[a.2]!.y ≠ 2 ∧ aP pts[a.1]! ≠ pts[a.2]!.y) a
def eJ (f : Nat → Bool) : Nat → Nat
 | 0 => 0
 | n + 1 => eJ f n ||| (if f n then 2 ^ n else 0)
theorem eF (f:Nat → Bool):∀ (n i:Nat),(eJ f n).testBit i = (decide (i < n) && f i)
 | 0,i => by simp [eJ]
 | n + 1, i => by
  rw [eJ,Nat.testBit_or,eF f n i]
  by_cases h : i = n
  ·subst h;cases hf : f i <;> simp [Nat.testBit_two_pow_self]
  ·have : ((if f n = true then 2 ^ n else 0).testBit i) = false := by
    split
    ·exact Nat.testBit_two_pow_of_ne (fun e => h e.symm)
    ·simp
   rw [this,Bool.or_false]
   congr 1
   simp only [decide_eq_decide]; omega
theorem vM (f:Nat → Bool) (n:Nat):eJ f n < 2 ^ n:=by
 apply Nat.lt_pow_two_of_testBit
 intro i hi
 rw [eF]; simp;omega
theorem bR {f:Nat → Bool}{n:Nat}(h:n ≤ 62):Sm (eJ f n) := ⟨Nat.lt_of_lt_of_le (vM f n) (Nat.pow_le_pow_right (by decide) h)⟩
theorem iO {σ ι:Type}(stp:σ × Bool → ι → σ × Bool) (C:ι → σ → Prop) (μ:σ → Nat) (S:σ → Prop) :
  ∀ (L : List ι),(∀ s b i,i ∈ L → S s → S (stp (s,b) i).1 ∧ ((stp (s,b) i = (s,b) ∧ C i s) ∨ ((stp (s,b) i).2 = true ∧ μ (stp (s,b) i).1 < μ s))) →
  ∀ s b,S s → S (L.foldl stp (s,b)).1 ∧ ((L.foldl stp (s,b) = (s,b) ∧ ∀ i ∈ L,C i s) ∨ ((L.foldl stp (s,b)).2 = true ∧ μ (L.foldl stp (s,b)).1 < μ s))
 | [],_,s,b,hs => ⟨hs,.inl ⟨rfl,by simp⟩⟩
 | i :: L, h, s, b, hs => by
  have h1 := h s b i (List.mem_cons_self) hs
  simp only [List.foldl_cons]
  generalize stp (s,b) i = r at h1
  obtain ⟨s',b'⟩ := r
  have h2 := iO stp C μ S L (fun s b j hj => h s b j (List.mem_cons_of_mem _ hj)) s' b' h1.1
  refine ⟨h2.1,?_⟩
  rcases h1.2 with ⟨e1,c1⟩ | ⟨e1,c1⟩
  ·cases e1
   rcases h2.2 with ⟨e2,c2⟩ | ⟨e2,c2⟩
   ·exact .inl ⟨e2,fun j hj => by rcases List.mem_cons.1 hj with rfl|hj;exact c1;exact c2 j hj⟩
   ·exact .inr ⟨e2,c2⟩
  ·rcases h2.2 with ⟨e2, c2⟩ | ⟨e2, c2⟩
   ·rw [e2]; exact .inr ⟨e1,c1⟩
   ·exact .inr ⟨e2,by dsimp only at c1;omega⟩
theorem dG {σ ι:Type}[Inhabited ι] (f:σ → ι → σ) (L:List ι) (s:σ) (k:Nat) (h:k < L.length):(L.take (k + 1)).foldl f s = f ((L.take k).foldl f s) L[k]!:=by
 rw [b0 _ _ h,List.foldl_append]; rfl
def eT (l : List Nat) : Nat := l.foldr (· + ·) 0
theorem oW (g:Nat → Nat):∀ (l:List Nat) (k:Nat) (x:Nat),k < l.length → eT ((l.set k x).map g) + g l[k]! = eT (l.map g) + g x
 | a :: l,0,x,_ => by simp [eT]; omega
 | a :: l, k + 1, x, h => by
  have := oW g l k x (by simpa using h)
  have e : (a :: l)[k + 1]! = l[k]! := by rw [aS _ _ h,aS _ _ (by simpa using h)]; rfl
  rw [e]
  simp only [List.set_cons_succ,List.map_cons,eT,List.foldr_cons] at this ⊢
  omega
abbrev aG (ts : List Int) (bd : List Stmt) (pts : List Pnt) : AV := .iptr [sl cI ts,sl aY bd,sl bZ pts]
def zA (t : Int) : Bool := decide (t = 2) || decide (t = 4)
def wS (ts : List Int) (x : Pnt) (us : List Int) : Nat := eJ (fun v => decide (a6 ts x v ∈ us)) ts.length
def iA (x : Pnt) : Nat := if 0 ≤ aP x then 2 ^ (aP x).toNat else 0
def gY (ts : List Int) (x : Pnt) (A : Nat) : Nat := nD A (wS ts x [2]) ||| iA x
theorem rH {x:Pnt}(h:aP x < 62):Sm (iA x):=by
 unfold iA;split
 ·exact Sm.pow (by omega)
 ·infer_instance
theorem pA (ts:List Int) (x:Pnt) (v:Int):0 ≤ a6 ts x v ∧ a6 ts x v ≤ 3:=by
 unfold a6;grind
theorem WG.set {ts:List Int}{pts:List Pnt}(h:WG ts pts) (i:Nat) (hi:i < pts.length):aP pts[i]! < ts.length ∧ (0 ≤ aP pts[i]! ∨ aP pts[i]! = -1):=by
 have := h.x i hi
 have := h.tl
 unfold aP;split <;> omega
theorem qG (f:Nat → Bool) (k:Nat) (h:f k = true):eJ f k ||| 2 ^ k = eJ f (k + 1) := by rw [eJ,if_pos h]
theorem l9 (f:Nat → Bool) (k:Nat) (h:f k = false):eJ f k = eJ f (k + 1) := by rw [eJ,if_neg (by simp [h]),Nat.or_zero]
theorem kD {i:Nat}{hs:List (Nat × Option (List AV))}{id:Nat}{cs:List AV}(h:aO ((i,none) :: hs) id = some cs):aO hs id = some cs ∧ id ≠ i:=by
 rw [cC] at h
 split at h
 ·cases h
 ·rename_i e;exact ⟨h,e⟩
theorem Le.frzD {ts:List (Nat × AV)}{hs:List (Nat × Option (List AV))}{n:Nat}{z0:Lo}{d i m e:Nat}{cs:List AV}(hd:lk ts d = some (.own i 0 m e)) (hi:aO hs i = some cs) :
  Le ⟨ts,hs,n,z0⟩ ⟨(d,.imm m cs) :: ts,(i,none) :: hs,n,z0⟩ := by
 rintro C a w ⟨h0,ι,g,gh⟩
 obtain ⟨gh',car⟩ := gh.less (F' := Fn n z0) (H' := aO ((i,none) :: hs)) (fun id c h => (kD h).1) (fun _ h => h)
 refine ⟨h0,ι,⟨g.df,g.sz,fun t av ht => ?_⟩,gh'⟩
 rw [show lk (⟨(d,.imm m cs) :: ts,(i,none) :: hs,n,z0⟩ : AS).ts t = lk ((d,.imm m cs) :: ts) t from rfl,k7] at ht
 split at ht
 ·rename_i et
  subst et
  cases ht
  obtain ⟨y,hy,hr⟩ := g.tm t _ hd
  refine ⟨y,hy,?_⟩
  simp only [Rd] at hr ⊢
  rcases hr with ⟨_,h2,a',h3⟩ | ⟨b,β,c,h1,h2,h3,h4⟩
  ·subst h2;exact ⟨a',0,h3,.inl rfl⟩
  ·refine ⟨_, c, h2, ?_⟩
   rcases Nat.eq_zero_or_pos m with h5|h5
   ·exact .inl h5
   ·refine .inr ⟨b, β + 0, h3, rfl, ?_⟩
    rcases gh.obj i cs hi with ⟨q1,q2⟩ | ⟨b',β',arr,e',q1,q2,q3,q4,q5,q6⟩
    ·rw [h1] at q1;cases q1
    ·rw [h1] at q1; cases q1
     refine .inr ⟨?_,RdC.carryB car _ _ _ (fun o x hx => hx) q4⟩
     rintro (h | ⟨id',cs',β',r1,r2⟩)
     ·exact q5 h
     ·exact (kD r1).2 (gh.sep _ _ _ _ _ _ _ (kD r1).1 hi r2 h1)
 ·obtain ⟨y, hy, hr⟩ := g.tm t av ht
  exact ⟨y,hy,Rd.carry car _ _ hr⟩
theorem Le.frzP {ts:List (Nat × AV)}{hs:List (Nat × Option (List AV))}{n:Nat}{z0:Lo}{d i:Nat}{cs:List AV}(hd:lk ts d = some (.optr i 0)) (hi:aO hs i = some cs) :
  Le ⟨ts,hs,n,z0⟩ ⟨(d,.iptr cs) :: ts,(i,none) :: hs,n,z0⟩ := by
 rintro C a w ⟨h0,ι,g,gh⟩
 obtain ⟨gh',car⟩ := gh.less (F' := Fn n z0) (H' := aO ((i,none) :: hs)) (fun id c h => (kD h).1) (fun _ h => h)
 refine ⟨h0,ι,⟨g.df,g.sz,fun t av ht => ?_⟩,gh'⟩
 rw [show lk (⟨(d,.iptr cs) :: ts,(i,none) :: hs,n,z0⟩ : AS).ts t = lk ((d,.iptr cs) :: ts) t from rfl,k7] at ht
 split at ht
 ·rename_i et
  subst et
  cases ht
  obtain ⟨y,hy,hr⟩ := g.tm t _ hd
  refine ⟨y,hy,?_⟩
  simp only [Rd] at hr ⊢
  obtain ⟨b,β,h1,h2⟩ := hr
  refine ⟨b,β + 0,h2,?_⟩
  rcases gh.obj i cs hi with ⟨q1,q2⟩ | ⟨b',β',arr,e',q1,q2,q3,q4,q5,q6⟩
  ·rw [h1] at q1;cases q1
  ·rw [h1] at q1; cases q1
   refine .inr ⟨?_,RdC.carryB car _ _ _ (fun o x hx => hx) q4⟩
   rintro (h | ⟨id',cs',β',r1,r2⟩)
   ·exact q5 h
   ·exact (kD r1).2 (gh.sep _ _ _ _ _ _ _ (kD r1).1 hi r2 h1)
 ·obtain ⟨y, hy, hr⟩ := g.tm t av ht
  exact ⟨y,hy,Rd.carry car _ _ hr⟩
theorem Le.nilOwn {ts:List (Nat × AV)}{hs:List (Nat × Option (List AV))}{n:Nat}{z0:Lo}{d:Nat}(e:Nat) (hd:lk ts d = some (.v (.slice none 0 0))) (hn:n < aV) :
  Le ⟨ts,hs,n,z0⟩ ⟨(d,.own n 0 0 e) :: ts,(n,some []) :: hs,n + 1,z0⟩ := by
 rintro C a w ⟨h0,ι,g,gh⟩
 have hf : ι n = none := gh.fresh n ⟨Nat.le_refl _,.inl hn⟩
 let ι' : Pl := dJ ι n (some none)
 have hne : ∀ id p, ι id = some p → ι' id = some p := by
  intro id p h
  have : id ≠ n := by rintro rfl;rw [hf] at h;cases h
  simp only [ι',bD _ _ this,h]
 have hback : ∀ id b β, ι' id = some (some (b, β)) → id ≠ n ∧ ι id = some (some (b, β)) := by
  intro id b β h
  by_cases q : id = n
  ·subst q;simp only [ι',upd_same] at h;cases h
  ·simp only [ι',bD _ _ q] at h;exact ⟨q,h⟩
 have hH : ∀ id cs, id ≠ n → aO ((n, some []) :: hs) id = some cs → aO hs id = some cs := by
  intro id cs q h;rw [cC,if_neg q] at h;exact h
 have car : Carry w (aK C.X ι (aO hs)) ι w (aK C.X ι' (aO ((n, some []) :: hs))) ι' := by
  refine ⟨fun b o x h1 h2 => ⟨?_,h2⟩,hne,fun _ => Nat.le_refl _⟩
  rintro (h | ⟨id,cs,β,q1,q2⟩)
  ·exact h1 (.inl h)
  ·obtain ⟨r1, r2⟩ := hback _ _ _ q2
   exact h1 (.inr ⟨id,cs,β,hH _ _ r1 q1,r2⟩)
 refine ⟨h0,ι',⟨g.df,g.sz,fun t av ht => ?_⟩,⟨fun id cs h => ?_,fun id id' cs cs' b β β' q1 q2 q3 q4 => ?_,gh.fr,fun id p h => hne _ _ (gh.ex _ _ h),fun id h => ?_⟩⟩
 ·rw [show lk (⟨(d, .own n 0 0 e) :: ts, (n, some []) :: hs, n + 1, z0⟩ : AS).ts t = lk ((d, .own n 0 0 e) :: ts) t from rfl, k7] at ht
  split at ht
  ·rename_i et
   subst et
   cases ht
   obtain ⟨y,hy,hr⟩ := g.tm t _ hd
   refine ⟨y,hy,?_⟩
   simp only [Rd] at hr ⊢
   exact .inl ⟨⟨none,by simp only [ι',upd_same]⟩,trivial,none,hr⟩
  ·obtain ⟨y, hy, hr⟩ := g.tm t av ht
   exact ⟨y,hy,Rd.carry car _ _ hr⟩
 ·by_cases q : id = n
  ·subst q
   simp only [cC,if_true,Option.some.injEq] at h
   exact .inl ⟨by simp only [ι',upd_same],h.symm⟩
  ·rcases gh.obj id cs (hH _ _ q h) with ⟨r1, r2⟩ | ⟨b, β, arr, e', r1, r2, r3, r4, r5, r6⟩
   ·exact .inl ⟨hne _ _ r1,r2⟩
   ·exact .inr ⟨b,β,arr,e',hne _ _ r1,r2,r3,RdC.carryB car _ _ _ (fun o x hx => hx) r4,r5,r6⟩
 ·obtain ⟨r1, r2⟩ := hback _ _ _ q3
  obtain ⟨r3,r4⟩ := hback _ _ _ q4
  exact gh.sep _ _ _ _ _ _ _ (hH _ _ r1 q1) (hH _ _ r3 q2) r2 r4
 ·have h1 : n + 1 ≤ id := h.1
  have h2 : id < aV ∨ z0.fb ≤ id := h.2
  have q : id ≠ n := by omega
  simp only [ι',bD _ _ q]
  exact gh.fresh id ⟨by show n ≤ id;omega,h2⟩
section
theorem cX {l:List Oper}{s s':AS}(h:RW P N all Q .txt l s') (k:Le s s'):RW P N all Q .txt l s := fun C a w hN g => h C a w hN (k C a w g)
theorem Le.trans {s s' s'':AS}(h:Le s s') (k:Le s' s''):Le s s'' := fun C a w g => k C a w (h C a w g)
theorem Le.frzTop {ts:List (Nat × AV)}{hs:List (Nat × Option (List AV))}{n:Nat}{z0:Lo}{d i m e:Nat}{cs:List AV} :
  Le ⟨(d,.own i 0 m e) :: ts,(i,some cs) :: hs,n,z0⟩ ⟨(d,.imm m cs) :: ts,(i,none) :: hs,n,z0⟩ := by
 refine (Le.frzD (d := d) (i := i) (m := m) (e := e) (cs := cs) (by simp [k7]) (by simp [cC])).trans ?_
 refine Le.of (fun t av h => ?_) (fun j c h => ?_) (Nat.le_refl _) rfl
 ·show lk ((d, .imm m cs) :: (d, .own i 0 m e) :: ts) t = _
  have h' : lk ((d,.imm m cs) :: ts) t = some av := h
  simp only [k7] at h' ⊢
  split
  ·rename_i q;rw [if_pos q] at h'; exact h'
  ·rename_i q;rw [if_neg q] at h'; exact h'
 ·show aO ((i, none) :: (i, some cs) :: hs) j = _
  have h' : aO ((i,none) :: hs) j = some c := h
  simp only [cC] at h' ⊢
  split
  ·rename_i q;rw [if_pos q] at h'; exact h'
  ·rename_i q;rw [if_neg q] at h'; exact h'
theorem aL {t el len e:Nat}{parts:Array (Nat × Operand)}{zs:List Value}{l:List (Nat × AV)}{cs:List AV}[ht:SlT P t el] [he:SzT P el e] [hz:ZrT P el zs] (hze:zs.length = e) (hsm:Nat.ble (len * e) 16777216 = true)
  (hl : evs (lk ts) parts.toList = some l) (hfl : g7 (fun i => some (i * e,e)) ((List.replicate len (zs.map .v)).flatten) l = some cs) (hM : Nat.blt n aV = true) (hN : Nat.blt d N = true) (kk : RW P N all Q .txt rest ⟨(d,.imm len cs) :: ts,(n,none) :: hs,n + 1,z0⟩) :
  RW P N all Q .txt (⟨some d,.buildSlice t len parts,ty,pos,af,none⟩ :: rest) ⟨ts,hs,n,z0⟩ :=
 nF hze hsm hl hfl hM hN (md' := .txt) (cX kk Le.frzTop)
end
theorem Le.mv {ts:List (Nat × AV)}{hs:List (Nat × Option (List AV))}{n:Nat}{z0:Lo}{d i o m e:Nat}{cs:List AV}(hd:lk ts d = some (.own i o m e)) (hi:aO hs i = some cs) (hn:n < aV) :
  Le ⟨ts,hs,n,z0⟩ ⟨(d,.own n o m e) :: ts,(n,some cs) :: (i,none) :: hs,n + 1,z0⟩ := by
 rintro C a w ⟨h0,ι,g,gh⟩
 have hf : ι n = none := gh.fresh n ⟨Nat.le_refl _,.inl hn⟩
 have hin : ∃ p, ι i = some p := by
  rcases gh.obj i cs hi with ⟨r1,_⟩ | ⟨b,β,_,_,r1,_⟩
  ·exact ⟨_,r1⟩
  ·exact ⟨_,r1⟩
 obtain ⟨pi,hpi⟩ := hin
 have hni : n ≠ i := by rintro rfl;rw [hf] at hpi;cases hpi
 let ι' : Pl := dJ ι n (ι i)
 have hnn : ι' n = ι i := by simp only [ι',upd_same]
 have hne' : ∀ id,id ≠ n → ι' id = ι id := fun id h => by simp only [ι',bD _ _ h]
 have hne : ∀ id p, ι id = some p → ι' id = some p := by
  intro id p h
  have : id ≠ n := by rintro rfl;rw [hf] at h;cases h
  rw [hne' _ this,h]
 -- the objects of the new state, under their old ids
 let σ : Nat → Nat := fun id => if id = n then i else id
 have hσ : ∀ id c, aO ((n, some cs) :: (i, none) :: hs) id = some c → aO hs (σ id) = some c ∧ ι' id = ι (σ id) ∧ (id = n ∨ id ≠ i) := by
  intro id c h
  simp only [cC] at h
  by_cases q : id = n
  ·subst q
   rw [if_pos rfl] at h;cases h
   exact ⟨by simp only [σ,if_true]; exact hi,by simp only [σ,if_true]; exact hnn,.inl rfl⟩
  ·rw [if_neg q] at h
   by_cases q2 : id = i
   ·rw [if_pos q2] at h;cases h
   ·rw [if_neg q2] at h
    exact ⟨by simp only [σ,if_neg q]; exact h,by simp only [σ,if_neg q]; exact hne' _ q,.inr q2⟩
 have car : Carry w (aK C.X ι (aO hs)) ι w (aK C.X ι' (aO ((n, some cs) :: (i, none) :: hs))) ι' := by
  refine ⟨fun b o x h1 h2 => ⟨?_,h2⟩,hne,fun _ => Nat.le_refl _⟩
  rintro (h | ⟨id,c,β,q1,q2⟩)
  ·exact h1 (.inl h)
  ·obtain ⟨r1, r2, _⟩ := hσ id c q1
   exact h1 (.inr ⟨σ id,c,β,r1,by rw [← r2]; exact q2⟩)
 refine ⟨h0,ι',⟨g.df,g.sz,fun t av ht => ?_⟩,⟨fun id c h => ?_,fun id id' c c' b β β' q1 q2 q3 q4 => ?_,gh.fr,fun id p h => hne _ _ (gh.ex _ _ h),fun id h => ?_⟩⟩
 ·have ht' : lk ((d, .own n o m e) :: ts) t = some av := ht
  rw [k7] at ht'
  split at ht'
  ·rename_i et
   subst et
   cases ht'
   obtain ⟨y,hy,hr⟩ := g.tm t _ hd
   refine ⟨y,hy,?_⟩
   have hr' := Rd.carry car _ _ hr
   simp only [Rd,hnn] at hr' ⊢
   rw [hne' i (fun h => hni h.symm)] at hr'
   exact hr'
  ·obtain ⟨y, hy, hr⟩ := g.tm t av ht'
   exact ⟨y,hy,Rd.carry car _ _ hr⟩
 ·obtain ⟨r1, r2, _⟩ := hσ id c h
  rcases gh.obj _ c r1 with ⟨s1,s2⟩ | ⟨b,β,arr,e',s1,s2,s3,s4,s5,s6⟩
  ·exact .inl ⟨by rw [r2]; exact s1,s2⟩
  ·exact .inr ⟨b,β,arr,e',by rw [r2]; exact s1,s2,s3,RdC.carryB car _ _ _ (fun o x hx => hx) s4,s5,s6⟩
 ·obtain ⟨r1, r2, r3⟩ := hσ id c q1
  obtain ⟨t1,t2,t3⟩ := hσ id' c' q2
  have := gh.sep _ _ _ _ _ _ _ r1 t1 (by rw [← r2]; exact q3) (by rw [← t2]; exact q4)
  simp only [σ] at this
  split at this <;> split at this
  ·omega
  ·rename_i u1 u2; rcases t3 with t3 | t3
   ·exact absurd t3 u2
   ·exact absurd this.symm t3
  ·rename_i u1 u2; rcases r3 with r3 | r3
   ·exact absurd r3 u1
   ·exact absurd this r3
  ·exact this
 ·have h1 : n + 1 ≤ id := h.1
  have h2 : id < aV ∨ z0.fb ≤ id := h.2
  rw [hne' id (by omega)]
  exact gh.fresh id ⟨by show n ≤ id;omega,h2⟩
theorem Le.slot {ts:List (Nat × AV)}{hs:List (Nat × Option (List AV))}{n:Nat}{z0:Lo}{d:Nat}{v v':AV}(hd:lk ts d = some v) (h:∀ (w:World) (bad:Nat → Prop) (ι:Pl) (y:Value),Rd w bad ι v y → Rd w bad ι v' y) :
  Le ⟨ts,hs,n,z0⟩ ⟨(d,v') :: ts,hs,n,z0⟩ := by
 rintro C a w ⟨h0,ι,g,gh⟩
 refine ⟨h0,ι,⟨g.df,g.sz,fun t av ht => ?_⟩,gh⟩
 have ht' : lk ((d,v') :: ts) t = some av := ht
 rw [k7] at ht'
 split at ht'
 ·rename_i et
  subst et
  cases ht'
  obtain ⟨y,hy,hr⟩ := g.tm t _ hd
  exact ⟨y,hy,h _ _ _ _ hr⟩
 ·exact g.tm t av ht'
theorem Le.nilImm {ts:List (Nat × AV)}{hs:List (Nat × Option (List AV))}{n:Nat}{z0:Lo}{d:Nat}(hd:lk ts d = some (.v (.slice none 0 0))):Le ⟨ts,hs,n,z0⟩ ⟨(d,.imm 0 []) :: ts,hs,n,z0⟩ :=
 Le.slot hd fun w bad ι y h => lS (av := .v (.slice none 0 0)) h
theorem Ff {α:Type}{f:α → List AV}{hs:List (Nat × Option (List AV))}{i:Nat}(h:aO hs i = some []):aO hs i = some (flat f []) := h
abbrev nY (a s : Nat) : Nat := a ||| s
abbrev Nb (a s : Nat) : Nat := a &&& s
def kZ (op : Nat → Nat → Nat) (s0 : Nat) (s : List Nat × Bool) (k : Nat) : List Nat × Bool :=
 if op s.1[k]! s0 ≠ s.1[k]! then (s.1.set k (op s.1[k]! s0),true) else s
def uK (pts : List Pnt) (i : Nat) : List Nat := pts[i]!.next.map (·.toNat)
def yM (op : Nat → Nat → Nat) (F : Nat → Nat → Nat) (pts : List Pnt) (s : List Nat × Bool) (i : Nat) : List Nat × Bool := (uK pts i).foldl (kZ op (F i s.1[i]!)) s
def xN (op : Nat → Nat → Nat) (F : Nat → Nat → Nat) (pts : List Pnt) (s : List Nat × Bool) : List Nat × Bool := (List.range pts.length).foldl (yM op F pts) s
theorem cU {α:Type}[Inhabited α] (l:List α) (k i:Nat) (x:α) (h:k < l.length):(l.set k x)[i]! = if i = k then x else l[i]!:=by
 by_cases e : i = k
 ·subst e;rw [if_pos rfl,aS _ _ (by simpa using h),List.getElem_set_self]
 ·rw [if_neg e]
  simp only [List.getElem!_eq_getElem?_getD,List.getElem?_set_ne (Ne.symm e)]
theorem pI {ts:List Int}{pts:List Pnt}(w:WG ts pts){i k:Nat}(hi:i < pts.length):k ∈ uK pts i ↔ cE pts i k:=by
 unfold uK cE
 rw [List.mem_map]
 constructor
 ·rintro ⟨z, hz, rfl⟩
  have := w.nx i hi z hz
  exact ⟨hi,by rw [Int.toNat_of_nonneg this.1]; exact hz⟩
 ·rintro ⟨_,h⟩; exact ⟨_,h,rfl⟩
theorem c8 {ts:List Int}{pts:List Pnt}(w:WG ts pts){i k:Nat}(h:cE pts i k):k < pts.length:=by
 have := w.nx i h.1 _ h.2;omega
structure Flow (op : Nat → Nat → Nat) (F : Nat → Nat → Nat) (pts : List Pnt) (g : Nat → Nat) (Pp : Nat → Nat → Prop) : Prop where
 snd : ∀ i k A B,cE pts i k → Pp i A → Pp k B → Pp k (op B (F i A))
 dec : ∀ i k A B,cE pts i k → Pp i A → Pp k B → op B (F i A) ≠ B → g (op B (F i A)) < g B
def SG (pts : List Pnt) (Pp : Nat → Nat → Prop) (l : List Nat) : Prop := l.length = pts.length ∧ ∀ i,i < pts.length → Pp i l[i]!
theorem Io {op:Nat → Nat → Nat}{F:Nat → Nat → Nat}{pts:List Pnt}{g:Nat → Nat}{Pp:Nat → Nat → Prop}(f:Flow op F pts g Pp){i k A:Nat}(hA:Pp i A) (e:cE pts i k) (hk:k < pts.length) (s:List Nat) (b:Bool) (h:SG pts Pp s) :
  SG pts Pp (kZ op (F i A) (s,b) k).1 ∧ ((kZ op (F i A) (s,b) k = (s,b) ∧ op s[k]! (F i A) = s[k]!) ∨ ((kZ op (F i A) (s,b) k).2 = true ∧ eT ((kZ op (F i A) (s,b) k).1.map g) < eT (s.map g))) := by
 unfold kZ
 dsimp only
 have hks : k < s.length := by rw [h.1]; exact hk
 by_cases hc : op s[k]! (F i A) ≠ s[k]!
 ·rw [if_pos hc]
  refine ⟨⟨by simp [h.1],fun j hj => ?_⟩,.inr ⟨rfl,?_⟩⟩
  ·dsimp only
   rw [cU _ _ _ _ hks]
   split
   ·rename_i q;subst q;exact f.snd _ _ _ _ e hA (h.2 j hj)
   ·exact h.2 j hj
  ·have := oW g s k (op s[k]! (F i A)) hks
   have h2 := f.dec i k A s[k]! e hA (h.2 k hk) hc
   dsimp only;omega
 ·rw [if_neg hc]
  exact ⟨h,.inl ⟨rfl,by simpa using hc⟩⟩
theorem IU {ts:List Int}{op:Nat → Nat → Nat}{F:Nat → Nat → Nat}{pts:List Pnt}{g:Nat → Nat}{Pp:Nat → Nat → Prop}(w:WG ts pts) (f:Flow op F pts g Pp) (s:List Nat) (b:Bool) (i:Nat) (hi:i < pts.length) (h:SG pts Pp s) :
  SG pts Pp (yM op F pts (s,b) i).1 ∧ ((yM op F pts (s,b) i = (s,b) ∧ ∀ k,cE pts i k → op s[k]! (F i s[i]!) = s[k]!) ∨ ((yM op F pts (s,b) i).2 = true ∧ eT ((yM op F pts (s,b) i).1.map g) < eT (s.map g))) := by
 have hA := h.2 i hi
 have := iO (kZ op (F i s[i]!)) (fun k l => op l[k]! (F i s[i]!) = l[k]!) (fun l => eT (l.map g)) (SG pts Pp) (uK pts i)
  (fun s' b' k hk hs => by
   have e := (pI w hi).1 hk
   exact Io f hA e (c8 w e) s' b' hs) s b h
 refine ⟨this.1,?_⟩
 rcases this.2 with ⟨e1,e2⟩|h2
 ·exact .inl ⟨e1,fun k e => e2 k ((pI w hi).2 e)⟩
 ·exact .inr h2
def kX (op : Nat → Nat → Nat) (F : Nat → Nat → Nat) (pts : List Pnt) (s : List Nat) : Prop := ∀ i k,cE pts i k → op s[k]! (F i s[i]!) = s[k]!
theorem tG {ts:List Int}{op:Nat → Nat → Nat}{F:Nat → Nat → Nat}{pts:List Pnt}{g:Nat → Nat}{Pp:Nat → Nat → Prop}(w:WG ts pts) (f:Flow op F pts g Pp) (s:List Nat) (b:Bool) (h:SG pts Pp s) :
  SG pts Pp (xN op F pts (s,b)).1 ∧ ((xN op F pts (s,b) = (s,b) ∧ kX op F pts s) ∨ ((xN op F pts (s,b)).2 = true ∧ eT ((xN op F pts (s,b)).1.map g) < eT (s.map g))) := by
 have := iO (yM op F pts) (fun i l => ∀ k, cE pts i k → op l[k]! (F i l[i]!) = l[k]!) (fun l => eT (l.map g)) (SG pts Pp) (List.range pts.length)
  (fun s' b' i hi hs => IU w f s' b' i (List.mem_range.1 hi) hs) s b h
 refine ⟨this.1,?_⟩
 rcases this.2 with ⟨e1,e2⟩|h2
 ·exact .inl ⟨e1,fun i k e => e2 i (List.mem_range.2 e.1) k e⟩
 ·exact .inr h2
theorem lK {a b:Nat}(h:a ||| b ≠ a):a < a ||| b:=by
 have := @Nat.left_le_or a b;omega
theorem y7 {a b:Nat}(h:a &&& b ≠ a):a &&& b < a:=by
 have := @Nat.and_le_left a b;omega
theorem fC {a b:Nat}:a ||| b = a ↔ ∀ v,b.testBit v = true → a.testBit v = true:=by
 constructor
 ·intro h v hv;rw [← h,Nat.testBit_or,hv]; simp
 ·intro h
  apply Nat.eq_of_testBit_eq;intro v
  rw [Nat.testBit_or]
  cases hb : b.testBit v with
  | false => simp
  | true => rw [h v hb]; rfl
theorem tR {a b:Nat}:a &&& b = a ↔ ∀ v,a.testBit v = true → b.testBit v = true:=by
 constructor
 ·intro h v hv;rw [← h,Nat.testBit_and,Bool.and_eq_true] at hv;exact hv.2
 ·intro h
  apply Nat.eq_of_testBit_eq;intro v
  rw [Nat.testBit_and]
  cases ha : a.testBit v with
  | false => simp
  | true => rw [h v ha]; rfl
theorem cO {a n:Nat}(h:a < 2 ^ n){v:Nat}(hv:a.testBit v = true):v < n:=by
 rcases Nat.lt_or_ge v n with h1|h1
 ·exact h1
 ·rw [Nat.testBit_lt_two_pow (Nat.lt_of_lt_of_le h (Nat.pow_le_pow_right (by decide) h1))] at hv;cases hv
theorem A4 {ts:List Int}{pts:List Pnt}(w:WG ts pts){i:Nat}(hi:i < pts.length){v:Nat}(h:a6 ts pts[i]! v ≠ 0):v < ts.length:=by
 have h1 := w.x i hi
 have h2 := w.y i hi
 unfold a6 at h
 grind
theorem b9 {ts:List Int}{x:Pnt}{us:List Int}{v:Nat}:(wS ts x us).testBit v = (decide (v < ts.length) && decide (a6 ts x v ∈ us)) := eF _ _ _
theorem fG {x:Pnt}{v:Nat}(h:aP x < 62):(iA x).testBit v = decide (aP x = (v:Int)):=by
 unfold iA
 split
 ·rename_i h0
  by_cases e : v = (aP x).toNat
  ·subst e;rw [Nat.testBit_two_pow_self]; simp;omega
  ·rw [Nat.testBit_two_pow_of_ne (fun h => e h.symm)]; simp;omega
 ·simp;omega
theorem dO {ts:List Int}{x:Pnt}{A v:Nat}(h:aP x < 62):(gY ts x A).testBit v = ((A.testBit v && !(decide (v < ts.length) && decide (a6 ts x v = 2))) || decide (aP x = (v:Int))):=by
 unfold gY
 rw [Nat.testBit_or,dE,b9,fG h]
 simp
def qL (ts : List Int) (pts : List Pnt) (A : List Nat) : Prop := A.length = pts.length ∧ ∀ i,i < pts.length → ∀ v,A[i]!.testBit v = true ↔ Mb ts pts (i,v)
def qN (ts : List Int) (pts : List Pnt) (A : List Nat) : Prop := A.length = pts.length ∧ ∀ i,i < pts.length → ∀ v,A[i]!.testBit v = true ↔ v < ts.length ∧ ¬ Na ts pts (i,v)
theorem kC {n:Nat}{A B:List Nat}(h1:A.length = n) (h2:B.length = n) (h:∀ i,i < n → ∀ v,A[i]!.testBit v = true ↔ B[i]!.testBit v = true):A = B:=by
 apply List.ext_getElem (by omega)
 intro i g1 g2
 have := h i (by omega)
 rw [aS _ _ g1,aS _ _ g2] at this
 apply Nat.eq_of_testBit_eq
 intro v
 rw [Bool.eq_iff_iff]; exact this v
def Ow (ts : List Int) (pts : List Pnt) (i A : Nat) : Prop := A < 2 ^ ts.length ∧ ∀ v,A.testBit v = true → Mb ts pts (i,v)
def ND (ts : List Int) (pts : List Pnt) (i A : Nat) : Prop := A < 2 ^ ts.length ∧ ∀ v,v < ts.length → A.testBit v = false → Na ts pts (i,v)
theorem rT {ts:List Int}{pts:List Pnt}(w:WG ts pts){i:Nat}(hi:i < pts.length){A:Nat}(hA:A < 2 ^ ts.length):gY ts pts[i]! A < 2 ^ ts.length:=by
 apply Nat.lt_pow_two_of_testBit
 intro v hv
 have hs := (w.set i hi).1
 have htl := w.tl
 rw [dO (by omega)]
 have : A.testBit v = false := by
  cases h : A.testBit v with
  | false => rfl
  | true => have := cO hA h;omega
 rw [this,Bool.false_and,Bool.false_or,decide_eq_false_iff_not]; omega
theorem Oi {ts:List Int}{pts:List Pnt}(w:WG ts pts):Flow (fun a s => a ||| s) (fun i A => gY ts pts[i]! A) pts (fun a => 2 ^ ts.length - a) (Ow ts pts):=by
 refine ⟨fun i k A B e hA hB => ⟨Nat.or_lt_two_pow hB.1 (rT w e.1 hA.1),fun v hv => ?_⟩,fun i k A B e hA hB hne => ?_⟩
 ·have hs := (w.set i e.1).1
  have htl := w.tl
  rw [Nat.testBit_or,Bool.or_eq_true] at hv
  rcases hv with hv|hv
  ·exact hB.2 v hv
  ·rw [dO (by omega)] at hv
   simp only [Bool.or_eq_true,Bool.and_eq_true,Bool.not_eq_true',Bool.and_eq_false_iff,decide_eq_true_eq,decide_eq_false_iff_not] at hv
   rcases hv with ⟨h1,h2⟩|h1
   ·refine .step (hA.2 v h1) ⟨rfl, e, ?_⟩
    have := cO hA.1 h1
    rcases h2 with h2|h2
    ·omega
    ·exact h2
   ·exact .base ⟨i,e,h1⟩
 ·have h1 := lK hne
  have h2 := Nat.or_lt_two_pow hB.1 (rT w e.1 hA.1)
  omega
theorem NS {ts:List Int}{pts:List Pnt}(w:WG ts pts):Flow (fun a s => a &&& s) (fun i A => gY ts pts[i]! A) pts (fun a => a) (ND ts pts):=by
 refine ⟨fun i k A B e hA hB => ⟨Nat.lt_of_le_of_lt Nat.and_le_left hB.1,fun v hv hf => ?_⟩,fun i k A B e hA hB hne => y7 hne⟩
 have hs := (w.set i e.1).1
 have htl := w.tl
 rw [Nat.testBit_and,Bool.and_eq_false_iff] at hf
 rcases hf with hf|hf
 ·exact hB.2 v hv hf
 ·rw [dO (by omega)] at hf
  simp only [Bool.or_eq_false_iff,Bool.and_eq_false_iff,Bool.not_eq_false',Bool.and_eq_true,decide_eq_true_eq,decide_eq_false_iff_not] at hf
  obtain ⟨h1|h1,h2⟩ := hf
  ·exact .step (hA.2 v hv h1) ⟨rfl,e,h2⟩
  ·exact .base ⟨hv,.inr ⟨i,e,h1.2,h2⟩⟩
theorem HO {ts:List Int}{pts:List Pnt}(w:WG ts pts){A:List Nat}(h:SG pts (Ow ts pts) A) (hc:kX (fun a s => a ||| s) (fun i A => gY ts pts[i]! A) pts A):qL ts pts A:=by
 refine ⟨h.1,fun i hi v => ⟨fun hv => (h.2 i hi).2 v hv,fun hm => ?_⟩⟩
 have htl := w.tl
 have key : ∀ a : Nat × Nat, Mb ts pts a → A[a.1]!.testBit a.2 = true := by
  refine Clo.sub (T := fun a : Nat × Nat => A[a.1]!.testBit a.2 = true) ?_ ?_
  ·rintro ⟨k, v⟩ ⟨i, e, hs⟩
   have h1 := (w.set i e.1).1
   refine fC.1 (hc i k e) v ?_
   rw [dO (by omega)]; simp only [Bool.or_eq_true,decide_eq_true_eq]; exact .inr hs
  ·rintro ⟨i, v⟩ ⟨k, v'⟩ ht ⟨rfl, e, hu⟩
   have h1 := (w.set i e.1).1
   refine fC.1 (hc i k e) v' ?_
   dsimp only at ht hu
   rw [dO (by omega),ht]; grind
 exact key (i,v) hm
theorem GA {ts:List Int}{pts:List Pnt}(w:WG ts pts){A:List Nat}(h:SG pts (ND ts pts) A) (h0:A[0]! = 0) (hc:kX (fun a s => a &&& s) (fun i A => gY ts pts[i]! A) pts A):qN ts pts A:=by
 refine ⟨h.1,fun i hi v => ?_⟩
 have htl := w.tl
 have key : ∀ a : Nat × Nat, Na ts pts a → A[a.1]!.testBit a.2 = false := by
  refine Clo.sub (T := fun a : Nat × Nat => A[a.1]!.testBit a.2 = false) ?_ ?_
  ·rintro ⟨k, v⟩ ⟨hv, h1 | ⟨i, e, hu, hs⟩⟩
   ·dsimp only at h1 ⊢; rw [h1,h0]; simp
   ·have h1 := (w.set i e.1).1
    dsimp only at hu hs hv ⊢
    cases hq : A[k]!.testBit v with
    | false => rfl
    | true =>
     have := tR.1 (hc i k e) v hq
     rw [dO (by omega)] at this
     grind
  ·rintro ⟨i, v⟩ ⟨k, v'⟩ ht ⟨rfl, e, hs⟩
   have h1 := (w.set i e.1).1
   dsimp only at ht hs ⊢
   cases hq : A[k]!.testBit v' with
   | false => rfl
   | true =>
    have := tR.1 (hc i k e) v' hq
    rw [dO (by omega),ht] at this
    grind
 constructor
 ·intro hv
  refine ⟨cO (h.2 i hi).1 hv,fun hn => ?_⟩
  have := key (i,v) hn
  dsimp only at this;rw [hv] at this;cases this
 ·rintro ⟨hv, hn⟩
  cases hq : A[i]!.testBit v with
  | true => rfl
  | false => exact absurd ((h.2 i hi).2 v hv hq) hn
theorem rY {ts:List Int}{pts:List Pnt}{Pp:Nat → Nat → Prop}{l:List Nat}(h:SG pts Pp l) (hp:∀ i A,Pp i A → A < 2 ^ ts.length) (htl:ts.length ≤ 6) (z:Nat):Sm l[z]!:=by
 by_cases hz : z < pts.length
 ·exact ⟨Nat.lt_of_lt_of_le (hp _ _ (h.2 z hz)) (Nat.pow_le_pow_right (by decide) (by omega))⟩
 ·rw [getElem!_neg _ _ (by rw [h.1]; exact hz)]; exact ⟨by decide⟩
theorem xM {pts:List Pnt}{i j:Nat}(h:j < pts[i]!.next.length):(uK pts i)[j]! = (pts[i]!.next[j]!).toNat:=by
 unfold uK
 rw [aS _ _ (by simpa using h),aS _ _ h,List.getElem_map]
theorem dL {σ:Type}(f:σ → Nat → σ) (s:σ) (k:Nat):(List.range (k + 1)).foldl f s = f ((List.range k).foldl f s) k:=by
 rw [List.range_succ,List.foldl_append]; rfl
theorem iL {op:Nat → Nat → Nat}{s0:Nat}{pts:List Pnt}{i j:Nat}(h:j < pts[i]!.next.length) (s:List Nat × Bool) :
  ((uK pts i).take (j + 1)).foldl (kZ op s0) s = kZ op s0 (((uK pts i).take j).foldl (kZ op s0) s) (pts[i]!.next[j]!).toNat := by
 have hl : j < (uK pts i).length := by unfold uK;simpa using h
 rw [dG _ _ _ _ hl,xM h]
theorem kU (pts:List Pnt) (i:Nat):(uK pts i).length = pts[i]!.next.length := by unfold uK;simp
theorem wW {op:Nat → Nat → Nat}{s0:Nat}{s:List Nat}{b:Bool}{k:Nat}(h:op s[k]! s0 ≠ s[k]!):kZ op s0 (s,b) k = (s.set k (op s[k]! s0),true) := by unfold kZ;rw [if_pos h]
theorem yY {op:Nat → Nat → Nat}{s0:Nat}{s:List Nat}{b:Bool}{k:Nat}(h:op s[k]! s0 = s[k]!):kZ op s0 (s,b) k = (s,b) := by unfold kZ;rw [if_neg (fun hc => hc h)]
theorem wN {op:Nat → Nat → Nat}{F:Nat → Nat → Nat}{pts:List Pnt}{g:Nat → Nat}{Pp:Nat → Nat → Prop}(f:Flow op F pts g Pp){ts:List Int}(w:WG ts pts){i k A:Nat}(hA:Pp i A) (e:cE pts i k){s:List Nat}(h:SG pts Pp s):SG pts Pp (s.set k (op s[k]! (F i A))):=by
 refine ⟨by simp [h.1],fun j hj => ?_⟩
 rw [cU _ _ _ _ (by rw [h.1]; exact c8 w e)]
 split
 ·rename_i q;subst q;exact f.snd _ _ _ _ e hA (h.2 j hj)
 ·exact h.2 j hj
theorem Ce {pts:List Pnt}{Pp:Nat → Nat → Prop}(h:∀ i,i < pts.length → Pp i 0):SG pts Pp (List.replicate pts.length 0):=by
 refine ⟨by simp,fun i hi => ?_⟩
 rw [aS _ _ (by simpa using hi),List.getElem_replicate]; exact h i hi
theorem ER {ts:List Int}{pts:List Pnt}{A B:List Nat}(h1:qL ts pts A) (h2:qL ts pts B):A = B := kC h1.1 h2.1 fun i hi v => (h1.2 i hi v).trans (h2.2 i hi v).symm
theorem D5 {ts:List Int}{pts:List Pnt}{A B:List Nat}(h1:qN ts pts A) (h2:qN ts pts B):A = B := kC h1.1 h2.1 fun i hi v => (h1.2 i hi v).trans (h2.2 i hi v).symm
theorem l6 {l:List Nat}{k x:Nat}(h:l[k]! = x) (hk:k < l.length):l.set k x = l:=by
 subst h;rw [aS _ _ hk]; exact List.set_getElem_self hk
theorem KO {n k a:Nat}(h:k < n):(List.replicate k a ++ List.replicate (n - k) 0).set k a = List.replicate (k + 1) a ++ List.replicate (n - (k + 1)) 0:=by
 rw [show n - k = (n - (k + 1)) + 1 by omega,List.replicate_succ]
 have := rW (List.replicate k a) 0 a (List.replicate (n - (k + 1)) 0)
 rw [List.length_replicate] at this
 rw [this,List.replicate_succ']; simp
theorem Gl {ts:List Int}{pts:List Pnt}(w:WG ts pts){u:List Nat}(hu:u = List.replicate pts.length (2 ^ ts.length - 1)):SG pts (ND ts pts) (u.set 0 0) ∧ (u.set 0 0)[0]! = 0:=by
 have hp0 := w.p0
 have h0 : 0 < u.length := by rw [hu]; simpa using hp0
 have hp : 0 < 2 ^ ts.length := Nat.pow_pos (by decide)
 refine ⟨⟨by simp [hu],fun i hi => ?_⟩,by rw [cU _ _ _ _ h0,if_pos rfl]⟩
 rw [cU _ _ _ _ h0]
 split
 ·rename_i e;subst e;exact ⟨hp,fun v hv _ => .base ⟨hv,.inl rfl⟩⟩
 ·rw [hu, aS _ _ (by simpa using hi), List.getElem_replicate]
  exact ⟨by omega,fun v hv hf => by rw [Nat.testBit_two_pow_sub_one] at hf;simp at hf;omega⟩
def Ka (pts : List Pnt) (B : List Nat) (i : Nat) : Nat := (uK pts i).foldl (fun a k => a ||| B[k]!) 0
def pZ (ts : List Int) (pts : List Pnt) (B : List Nat) (i : Nat) : Nat := wS ts pts[i]! [1,2,3] ||| nD (Ka pts B i) (iA pts[i]!)
theorem lR (B:List Nat) (v:Nat):∀ (L:List Nat) (a:Nat),(L.foldl (fun a k => a ||| B[k]!) a).testBit v = true ↔ a.testBit v = true ∨ ∃ k ∈ L,B[k]!.testBit v = true
 | [],a => by simp
 | k :: L, a => by
  rw [List.foldl_cons,lR B v L,Nat.testBit_or,Bool.or_eq_true]
  simp only [List.mem_cons,exists_eq_or_imp]
  grind
theorem qF {ts:List Int}{pts:List Pnt}(w:WG ts pts){B:List Nat}{i v:Nat}(hi:i < pts.length):(Ka pts B i).testBit v = true ↔ ∃ k,cE pts i k ∧ B[k]!.testBit v = true:=by
 unfold Ka
 rw [lR]
 simp only [Nat.zero_testBit,Bool.false_eq_true,false_or,pI w hi]
theorem jP {ts:List Int}{pts:List Pnt}(w:WG ts pts){B:List Nat}{i v:Nat}(hi:i < pts.length):(pZ ts pts B i).testBit v = true ↔ (v < ts.length ∧ a6 ts pts[i]! v ≠ 0) ∨ (aP pts[i]! ≠ v ∧ ∃ k,cE pts i k ∧ B[k]!.testBit v = true):=by
 have hs := (w.set i hi).1
 have htl := w.tl
 have hb := pA ts pts[i]! v
 unfold pZ
 rw [Nat.testBit_or,dE,b9,fG (by omega)]
 simp only [Bool.or_eq_true,Bool.and_eq_true,decide_eq_true_eq,Bool.not_eq_true',decide_eq_false_iff_not,qF w hi,List.mem_cons,List.not_mem_nil,or_false]
 have : (a6 ts pts[i]! (v : Int) = 1 ∨ a6 ts pts[i]! (v : Int) = 2 ∨ a6 ts pts[i]! (v : Int) = 3) ↔ a6 ts pts[i]! (v : Int) ≠ 0 := by omega
 rw [this]
 constructor
 ·rintro (h | ⟨h1, h2⟩)
  ·exact .inl h
  ·exact .inr ⟨h2,h1⟩
 ·rintro (h | ⟨h1, h2⟩)
  ·exact .inl h
  ·exact .inr ⟨h2,h1⟩
def OR (ts : List Int) (pts : List Pnt) (i A : Nat) : Prop := A < 2 ^ ts.length ∧ ∀ v,A.testBit v = true → Nd ts pts (i,v)
def sJ (ts : List Int) (pts : List Pnt) (A : List Nat) : Prop := A.length = pts.length ∧ ∀ i,i < pts.length → ∀ v,A[i]!.testBit v = true ↔ Nd ts pts (i,v)
theorem EP {ts:List Int}{pts:List Pnt}{A B:List Nat}(h1:sJ ts pts A) (h2:sJ ts pts B):A = B := kC h1.1 h2.1 fun i hi v => (h1.2 i hi v).trans (h2.2 i hi v).symm
def k8 (ts : List Int) (pts : List Pnt) (s : List Nat × Bool) (i : Nat) : List Nat × Bool := if pZ ts pts s.1 i ≠ s.1[i]! then (s.1.set i (pZ ts pts s.1 i),true) else s
def SN (ts : List Int) (pts : List Pnt) (l : List Nat) : Prop := SG pts (OR ts pts) l ∧ ∀ i,i < pts.length → ∀ v,l[i]!.testBit v = true → (pZ ts pts l i).testBit v = true
theorem AD {ts:List Int}{pts:List Pnt}(w:WG ts pts){l l':List Nat}{i:Nat}(hi:i < pts.length) (h:∀ k,k < pts.length → ∀ v,l[k]!.testBit v = true → l'[k]!.testBit v = true){v:Nat}(hv:(pZ ts pts l i).testBit v = true):(pZ ts pts l' i).testBit v = true:=by
 rw [jP w hi] at hv ⊢
 rcases hv with hv | ⟨h1,k,e,h2⟩
 ·exact .inl hv
 ·exact .inr ⟨h1,k,e,h k (c8 w e) v h2⟩
theorem Jo {ts:List Int}{pts:List Pnt}(w:WG ts pts){l:List Nat}{i:Nat}(hi:i < pts.length) (h:SG pts (OR ts pts) l):OR ts pts i (pZ ts pts l i):=by
 have key : ∀ v, (pZ ts pts l i).testBit v = true → v < ts.length ∧ Nd ts pts (i, v) := by
  intro v hv
  rw [jP w hi] at hv
  rcases hv with ⟨h1,h2⟩ | ⟨h1,k,e,h2⟩
  ·exact ⟨h1,.base ⟨hi,h1,h2⟩⟩
  ·have hk := h.2 k (c8 w e)
   exact ⟨cO hk.1 h2,.step (hk.2 v h2) ⟨rfl,e,h1⟩⟩
 refine ⟨?_,fun v hv => (key v hv).2⟩
 apply Nat.lt_pow_two_of_testBit
 intro v hv
 cases hq : (pZ ts pts l i).testBit v with
 | false => rfl
 | true => have := (key v hq).1;omega
theorem wA {ts:List Int}{pts:List Pnt}(w:WG ts pts) (s:List Nat) (b:Bool) (i:Nat) (hi:i < pts.length) (h:SN ts pts s) :
  SN ts pts (k8 ts pts (s,b) i).1 ∧ ((k8 ts pts (s,b) i = (s,b) ∧ pZ ts pts s i = s[i]!) ∨ ((k8 ts pts (s,b) i).2 = true ∧ eT ((k8 ts pts (s,b) i).1.map (fun a => 2 ^ ts.length - a)) < eT (s.map (fun a => 2 ^ ts.length - a)))) := by
 unfold k8
 dsimp only
 have his : i < s.length := by rw [h.1.1]; exact hi
 by_cases hc : pZ ts pts s i ≠ s[i]!
 ·rw [if_pos hc]
  have hp := Jo w hi h.1
  have hge : ∀ k, k < pts.length → ∀ v, s[k]!.testBit v = true → ((s.set i (pZ ts pts s i))[k]!).testBit v = true := by
   intro k hk v hv
   rw [cU _ _ _ _ his]
   split
   ·rename_i q;subst q;exact h.2 _ hk v hv
   ·exact hv
  refine ⟨⟨⟨by simp [h.1.1],fun j hj => ?_⟩,fun j hj v hv => ?_⟩,.inr ⟨rfl,?_⟩⟩
  ·rw [cU _ _ _ _ his]
   split
   ·rename_i q;subst q;exact hp
   ·exact h.1.2 j hj
  ·rw [cU _ _ _ _ his] at hv
   split at hv
   ·rename_i q;subst q;exact AD w hj hge hv
   ·exact AD w hj hge (h.2 j hj v hv)
  ·have h1 := oW (fun a => 2 ^ ts.length - a) s i (pZ ts pts s i) his
   have h2 : s[i]! ||| pZ ts pts s i = pZ ts pts s i := by rw [Nat.or_comm]; exact fC.2 (h.2 i hi)
   have h3 : s[i]! < pZ ts pts s i := by
    have : s[i]! ≤ pZ ts pts s i := by rw [← h2]; exact Nat.left_le_or
    omega
   have h4 := hp.1
   dsimp only at h1 ⊢; omega
 ·rw [if_neg hc]
  exact ⟨h,.inl ⟨rfl,by simpa using hc⟩⟩
def AX (ts : List Int) (pts : List Pnt) (s : List Nat × Bool) : List Nat × Bool := (List.range pts.length).reverse.foldl (k8 ts pts) s
theorem Ey {ts:List Int}{pts:List Pnt}(w:WG ts pts) (s:List Nat) (b:Bool) (h:SN ts pts s) :
  SN ts pts (AX ts pts (s,b)).1 ∧ ((AX ts pts (s,b) = (s,b) ∧ ∀ i,i < pts.length → pZ ts pts s i = s[i]!) ∨ ((AX ts pts (s,b)).2 = true ∧ eT ((AX ts pts (s,b)).1.map (fun a => 2 ^ ts.length - a)) < eT (s.map (fun a => 2 ^ ts.length - a)))) := by
 have := iO (k8 ts pts) (fun i l => pZ ts pts l i = l[i]!) (fun l => eT (l.map (fun a => 2 ^ ts.length - a))) (SN ts pts) (List.range pts.length).reverse
  (fun s' b' i hi hs => wA w s' b' i (List.mem_range.1 (List.mem_reverse.1 hi)) hs) s b h
 refine ⟨this.1,?_⟩
 rcases this.2 with ⟨e1,e2⟩|h2
 ·exact .inl ⟨e1,fun i hi => e2 i (List.mem_reverse.2 (List.mem_range.2 hi))⟩
 ·exact .inr h2
theorem H6 {ts:List Int}{pts:List Pnt}(w:WG ts pts){A:List Nat}(h:SN ts pts A) (hc:∀ i,i < pts.length → pZ ts pts A i = A[i]!):sJ ts pts A:=by
 refine ⟨h.1.1,fun i hi v => ⟨fun hv => (h.1.2 i hi).2 v hv,fun hm => ?_⟩⟩
 have key : ∀ a : Nat × Nat, Nd ts pts a → A[a.1]!.testBit a.2 = true := by
  refine Clo.sub (T := fun a : Nat × Nat => A[a.1]!.testBit a.2 = true) ?_ ?_
  ·rintro ⟨i, v⟩ ⟨h1, h2, h3⟩
   dsimp only at h1 h2 h3 ⊢
   rw [← hc i h1,jP w h1]; exact .inl ⟨h2,h3⟩
  ·rintro ⟨n, v⟩ ⟨i, v'⟩ ht ⟨rfl, e, hs⟩
   dsimp only at ht hs e ⊢
   rw [← hc i e.1,jP w e.1]; exact .inr ⟨hs,n,e,ht⟩
 exact key (i,v) hm
def qD (ts : List Int) (pts : List Pnt) (A : List Nat) : Prop := A.length = pts.length ∧ ∀ i,i < pts.length → ∀ v,A[i]!.testBit v = true ↔ Lv ts pts i v
theorem vL {ts:List Int}{pts:List Pnt}{A B:List Nat}(h1:qD ts pts A) (h2:qD ts pts B):A = B := kC h1.1 h2.1 fun i hi v => (h1.2 i hi v).trans (h2.2 i hi v).symm
theorem Bu {ts:List Int}{pts:List Pnt}(w:WG ts pts){A:List Nat}(h:sJ ts pts A):qD ts pts ((List.range pts.length).map (Ka pts A)):=by
 refine ⟨by simp,fun i hi v => ?_⟩
 rw [aS _ _ (by simpa using hi),List.getElem_map,List.getElem_range,qF w hi]
 constructor
 ·rintro ⟨k,e,hk⟩; exact ⟨k,e,(h.2 k (c8 w e) v).1 hk⟩
 ·rintro ⟨k,e,hk⟩; exact ⟨k,e,(h.2 k (c8 w e) v).2 hk⟩
theorem zD {n k:Nat}(h:k < n):(List.range n).reverse[k]! = n - 1 - k:=by
 rw [aS _ _ (by simpa using h),List.getElem_reverse]; simp
theorem CX {ts:List Int}{pts:List Pnt}{s:List Nat}{b:Bool}{i:Nat}(h:pZ ts pts s i ≠ s[i]!):k8 ts pts (s,b) i = (s.set i (pZ ts pts s i),true) := by unfold k8;rw [if_pos h]
theorem JF {ts:List Int}{pts:List Pnt}{s:List Nat}{b:Bool}{i:Nat}(h:pZ ts pts s i = s[i]!):k8 ts pts (s,b) i = (s,b) := by unfold k8;rw [if_neg (fun hc => hc h)]
theorem L8 {ts:List Int}{pts:List Pnt}:SN ts pts (List.replicate pts.length 0):=by
 refine ⟨Ce fun i hi => ⟨Nat.pow_pos (by decide),fun v h => by simp at h⟩,fun i hi v h => ?_⟩
 rw [aS _ _ (by simpa using hi),List.getElem_replicate] at h;simp at h
theorem tA {ts:List Int}{pts:List Pnt}(w:WG ts pts){a:Nat × Nat}(h:Nd ts pts a):a.2 < ts.length:=by
 induction h with
 | base h => exact h.2.1
 | step _ r ih => rw [r.1]; exact ih
instance (a b : List AV) [h : Pur a] [h2 : Pur b] : Pur (a ++ b):=⟨by rw [iB,h.pf,h2.pf]; rfl⟩
instance (fn : Go.Fn) (f c : List AV) [h : Pur f] [h2 : Pur c] : PurV (.clos fn f c):=⟨by simp only [AV.pur,h.pf,h2.pf,Bool.and_self]⟩
def cN (n : Nat) : List AV := [.v (.int .i64 (n : Int))]
def cW (n : Nat) : List AV := [.v (.int .u64 (n : Int))]
instance : FlT cN 1:=⟨fun _ => rfl⟩
instance : FlT cW 1:=⟨fun _ => rfl⟩
instance : FE cN (fun n => [.v (.int .i64 (n : Int))]):=⟨fun _ => rfl⟩
instance : FE cW (fun n => [.v (.int .u64 (n : Int))]):=⟨fun _ => rfl⟩
instance (n : Nat) : Pur (cN n):=⟨rfl⟩
instance (n : Nat) : Pur (cW n):=⟨rfl⟩
theorem Nw {xs:List Nat}{k:Nat}{a:Nat}(hk:k < xs.length):gM (flat cN xs) (0 + k * 1) [.v (.int .i64 (a:Int))] = flat cN (xs.set k a) := fH hk rfl
theorem CT {xs:List Nat}{k:Nat}{a:Nat}(hk:k < xs.length):gM (flat cW xs) (0 + k * 1) [.v (.int .u64 (a:Int))] = flat cW (xs.set k a) := fH hk rfl
theorem JJ {xs:List Nat}{m:Nat}{a:Nat}(hm:m = xs.length):((flat cN xs).drop 0).take (m * 1) ++ [.v (.int .i64 (a:Int))] = flat cN (xs ++ [a]) := fK hm rfl
theorem uD {α:Type}{f:α → List AV}{x:α}{l:List AV}{m:Nat}(h:l = f x):(List.replicate m l).flatten = flat f (List.replicate m x):=by
 subst h;simp [flat,List.flatMap_def]
theorem Ni {m:Nat}:(List.replicate m ([Value.int .i64 0].map AV.v)).flatten = flat cN (List.replicate m 0) := uD rfl
theorem KT {m:Nat}:(List.replicate m ([Value.int .u64 0].map AV.v)).flatten = flat cW (List.replicate m 0) := uD rfl
theorem Dl {m:Nat}:(List.replicate m ([Value.bool false].map AV.v)).flatten = flat cB (List.replicate m false) := uD rfl
section
theorem nE {t el e by' m:Nat}{x y:Operand}{zs:List Value}{cs:List AV}{k k':IntKind}[ht:SlT P t el] [he:SzT P el e] [hb:ByT P el by'] [hz:ZrT P el zs]
  (hx : ev (lk ts) x = some (.v (.int k (m : Int)))) (hy : ev (lk ts) y = some (.v (.int k' (m : Int)))) (hze : zs.length = e) (hsm : by' * m ≤ 281474976710656) (hmx : m ≤ 9223372036854775807)
  (hcs : (List.replicate m (zs.map .v)).flatten = cs) (hM : Nat.blt n aV = true) (hN : Nat.blt d N = true) {md' : Md} [hmd : MdA md (rO x ++ rO y) [.inr n,.inl d] md'] (kk : RW P N all Q md' rest ⟨(d,.own n 0 m e) :: ts,(n,some cs) :: hs,n + 1,z0⟩) :
  RW P N all Q md (⟨some d,.makeSlice t x y,ty,pos,af,none⟩ :: rest) ⟨ts,hs,n,z0⟩ := by
 subst hcs
 exact wJ hx hy hze hsm hmx hM hN (md' := md') (hmd := hmd) kk
end
theorem m7 {H:Nat → Option (List AV)}:jL H [] = some [] := rfl
theorem kM {H:Nat → Option (List AV)}{c x:AV}{cs l:List AV}(h1:iR H c = some x) (h2:jL H cs = some l):jL H (c :: cs) = some (x :: l):=by
 simp only [jL,h1,h2]
theorem mP {H:Nat → Option (List AV)}{i m e:Nat}{cs:List AV}(h:H i = some cs) (hp:Pur cs):iR H (.own i 0 m e) = some (.imm m cs):=by
 simp only [iR,h,Option.bind_some,hp.pf,if_true,List.drop_zero]
theorem yO {H:Nat → Option (List AV)}{x:Value}:iR H (.v x) = some (.v x) := rfl
theorem Cb {H:Nat → Option (List AV)}{cs:List AV}(hp:Pur cs):iR H (.iptr cs) = some (.iptr cs) := by simp only [iR,hp.pf,if_true]
section
theorem pD {k:FuncId}{args:Array Operand}{tys:Array TypeId}{avs avs2:List AV}{r:AV}{md':Md}[hc:CaT P k] (ha:evL (lk ts) args.toList = some avs) (hl:jL (aO hs) avs = some avs2) (h:PC P k avs2 (fun x => x = r)) (hfr:r.free = true) (hN:Nat.blt d N = true)
  (hmd : MdA md (fU args.toList ++ rL avs) [.inl d] md') (kk : RW P N all Q md' rest ⟨(d,r) :: ts,hs,n,z0⟩) : RW P N all Q md (⟨some d,.call ⟨.value (.func k),args,tys⟩,ty,pos,af,none⟩ :: rest) ⟨ts,hs,n,z0⟩ := by
 exact KB ha hl h hfr hN (hmd := hmd) kk
end
theorem EM {k:IntKind}[hk:K6 k] (a:Nat) [ha:Sm a]:jB .and k a 1 = some (.int k ((a &&& 1:Nat):Int)) := Bp a 1
section
theorem Kj {k:IntKind}{t t':TypeId}{x y:Operand}{a:Nat}(hx:ev (lk ts) x = some (.v (.int k (a:Int)))) (hy:ev (lk ts) y = some (.v (.int k 1))) (hk:K6 k) (ha:Sm a)
  (hN : Nat.blt d N = true) {md' : Md} [hmd : MdA md (rO x ++ rO y) [.inl d] md'] (kk : RW P N all Q md' rest ⟨(d,.v (.int k ((a &&& 1 : Nat) : Int))) :: ts,hs,n,z0⟩) : RW P N all Q md (⟨some d,.binOp .and t x y t',ty,pos,af,none⟩ :: rest) ⟨ts,hs,n,z0⟩ :=
 gP hx hy (.inl rfl) (EM a) (dC hN) (by rw [hmd.pf]; exact kk)
end
theorem lZ (A v:Nat):((A >>> v &&& 1:Nat):Int) = 1 ↔ A.testBit v = true:=by
 rw [Nat.testBit,Nat.and_comm]
 have : 1 &&& (A >>> v) = (A >>> v) % 2 := by rw [Nat.and_comm,Nat.and_one_is_mod]
 rw [this]
 have := Nat.mod_two_eq_zero_or_one (A >>> v)
 simp only [bne_iff_ne,ne_eq]
 omega
def a8 (A : Nat) : List Int := ((List.range 62).filter (A.testBit ·)).map (fun v : Nat => (v : Int))
theorem pP {A k:Nat}(h:∀ v,k ≤ v → A.testBit v = false) (hk:k ≤ 64) (hA:Sm A):a8 A = ((List.range k).filter (A.testBit ·)).map (fun v:Nat => (v:Int)):=by
 unfold a8
 congr 1
 have e : ∀ (a b : Nat), (∀ v, a ≤ v → v < a + b → A.testBit v = false) → (List.range (a + b)).filter (A.testBit ·) = (List.range a).filter (A.testBit ·) := by
  intro a b hb
  rw [List.range_add,List.filter_append]
  have : List.filter (A.testBit ·) (List.map (fun x => a + x) (List.range b)) = [] := by
   rw [List.filter_eq_nil_iff]
   intro x hx
   rw [List.mem_map] at hx
   obtain ⟨y,hy,rfl⟩ := hx
   rw [List.mem_range] at hy
   rw [hb _ (by omega) (by omega)]; simp
  rw [this,List.append_nil]
 rcases Nat.le_total k 62 with h1|h1
 ·have := e k (62 - k) (fun v h2 _ => h v h2)
  rwa [show k + (62 - k) = 62 by omega] at this
 ·have := e 62 (k - 62) (fun v h2 _ => Nat.testBit_lt_two_pow (Nat.lt_of_lt_of_le hA.pf (Nat.pow_le_pow_right (by decide) h2)))
  rw [show 62 + (k - 62) = k by omega] at this
  exact this.symm
theorem iJ (p:Nat → Bool) (k:Nat):(List.range (k + 1)).filter p = (List.range k).filter p ++ (if p k = true then [k] else []):=by
 rw [List.range_succ,List.filter_append]
 congr 1
 by_cases h : p k = true <;> simp [h]
theorem cM {A:Nat}{z:Int}:z ∈ a8 A ↔ ∃ v:Nat,v < 62 ∧ A.testBit v = true ∧ z = v:=by
 unfold a8
 simp only [List.mem_map,List.mem_filter,List.mem_range]
 constructor
 ·rintro ⟨v,⟨h1,h2⟩,rfl⟩; exact ⟨v,h1,h2,rfl⟩
 ·rintro ⟨v,h1,h2,rfl⟩; exact ⟨v,⟨h1,h2⟩,rfl⟩
theorem CY {A k:Nat}(hA:Sm A) (h:0 < ((A >>> k:Nat):Int)):k < 62:=by
 rcases Nat.lt_or_ge k 62 with h1|h1
 ·exact h1
 ·have : A >>> k = 0 := by rw [Nat.shiftRight_eq_div_pow]; exact Nat.div_eq_of_lt (Nat.lt_of_lt_of_le hA.pf (Nat.pow_le_pow_right (by decide) h1))
  rw [this] at h;simp at h
theorem Ic {A k:Nat}(h:((A >>> k:Nat):Int) ≤ 0) (v:Nat) (hv:k ≤ v):A.testBit v = false:=by
 have h0 : A >>> k = 0 := Nat.le_zero.1 (Int.ofNat_le.1 h)
 have : A.testBit v = (A >>> k).testBit (v - k) := by rw [Nat.testBit_shiftRight]; congr 1;omega
 rw [this,h0]; simp
theorem vP {A k:Nat}{u:List Int}(h:((A >>> k &&& 1:Nat):Int) = 1) (hu:u = ((List.range k).filter (A.testBit ·)).map (fun v:Nat => (v:Int))):u ++ [(k:Int)] = ((List.range (k + 1)).filter (A.testBit ·)).map (fun v:Nat => (v:Int)):=by
 rw [iJ,if_pos ((lZ A k).1 h),List.map_append,hu]; rfl
theorem u9 {A k:Nat}{u:List Int}(h:¬ ((A >>> k &&& 1:Nat):Int) = 1) (hu:u = ((List.range k).filter (A.testBit ·)).map (fun v:Nat => (v:Int))):u = ((List.range (k + 1)).filter (A.testBit ·)).map (fun v:Nat => (v:Int)):=by
 rw [iJ,if_neg (fun q => h ((lZ A k).2 q)),List.append_nil,hu]
def qW (pts : List Pnt) (V : Nat) : Nat := eJ (fun l => bY pts[l]! && V.testBit (pts[l]!.y.toNat)) pts.length
theorem GI {ts:List Int}{pts:List Pnt}(w:WG ts pts) (V:Nat):Sm (qW pts V) := bR (by have := w.pl;omega)
theorem mI {pts:List Pnt}{V l:Nat}:(qW pts V).testBit l = (decide (l < pts.length) && (bY pts[l]! && V.testBit (pts[l]!.y.toNat))) := eF _ _ _
def L4 (pts : List Pnt) (i : Nat) : Nat := if bY pts[i]! = true then 2 ^ i else 0
def xZ (ts : List Int) (pts : List Pnt) (i A : Nat) : Nat := nD A (qW pts (wS ts pts[i]! [2] ||| iA pts[i]!)) ||| L4 pts i
theorem pR {ts:List Int}{pts:List Pnt}(w:WG ts pts){l:Nat}(hl:l < pts.length) (h:bY pts[l]! = true):0 ≤ pts[l]!.y ∧ pts[l]!.y < ts.length ∧ pts[l]!.y.toNat < ts.length ∧ ((pts[l]!.y.toNat:Nat):Int) = pts[l]!.y:=by
 have := w.y l hl
 unfold bY at h
 simp only [Bool.or_eq_true,decide_eq_true_eq] at h
 omega
theorem testBit_lnB {pts:List Pnt}{i l:Nat}:(L4 pts i).testBit l = (bY pts[i]! && decide (l = i)):=by
 unfold L4
 split
 ·rename_i h
  by_cases e : l = i
  ·subst e;rw [Nat.testBit_two_pow_self,h]; simp
  ·rw [Nat.testBit_two_pow_of_ne (fun q => e q.symm),h]; simp [e]
 ·rename_i h;rw [Bool.not_eq_true] at h;rw [h]; simp
theorem mC {ts:List Int}{pts:List Pnt}(w:WG ts pts){i A l:Nat}(hi:i < pts.length) (hl:l < pts.length) (hln:bY pts[l]! = true):(xZ ts pts i A).testBit l = true ↔ (A.testBit l = true ∧ a6 ts pts[i]! pts[l]!.y ≠ 2 ∧ aP pts[i]! ≠ pts[l]!.y) ∨ (bY pts[i]! = true ∧ l = i):=by
 have hy := pR w hl hln
 have hs := (w.set i hi).1
 have htl := w.tl
 unfold xZ
 rw [Nat.testBit_or,dE,mI,testBit_lnB,Nat.testBit_or,b9,fG (by omega),hy.2.2.2,hln]
 simp only [Bool.or_eq_true,Bool.and_eq_true,Bool.not_eq_true',Bool.and_eq_false_iff,Bool.or_eq_false_iff,decide_eq_true_eq,decide_eq_false_iff_not,List.mem_cons,List.not_mem_nil,or_false,Bool.true_eq_false,false_or]
 have := hy.2.2.1
 grind
theorem B8 {ts:List Int}{pts:List Pnt}(w:WG ts pts){i A:Nat}(hi:i < pts.length) (hA:A < 2 ^ pts.length):xZ ts pts i A < 2 ^ pts.length:=by
 unfold xZ
 refine Nat.or_lt_two_pow (Nat.xor_lt_two_pow hA (Nat.lt_of_le_of_lt Nat.and_le_left hA)) ?_
 unfold L4;split
 ·exact Nat.pow_lt_pow_right (by decide) hi
 ·exact Nat.pow_pos (by decide)
def NU (ts : List Int) (pts : List Pnt) (i A : Nat) : Prop := A < 2 ^ pts.length ∧ ∀ l,A.testBit l = true → Lr ts pts (i,l)
def qI (ts : List Int) (pts : List Pnt) (A : List Nat) : Prop := A.length = pts.length ∧ ∀ i,i < pts.length → ∀ l,A[i]!.testBit l = true ↔ Lr ts pts (i,l)
theorem E9 {ts:List Int}{pts:List Pnt}{A B:List Nat}(h1:qI ts pts A) (h2:qI ts pts B):A = B := kC h1.1 h2.1 fun i hi v => (h1.2 i hi v).trans (h2.2 i hi v).symm
theorem tM {ts:List Int}{pts:List Pnt}{a:Nat × Nat}(h:Lr ts pts a):a.2 < pts.length ∧ bY pts[a.2]! = true:=by
 induction h with
 | base h => exact ⟨h.1.1,h.2⟩
 | step _ r ih => rw [r.1]; exact ih
theorem Ol {ts:List Int}{pts:List Pnt}(w:WG ts pts):Flow nY (xZ ts pts) pts (fun a => 2 ^ pts.length - a) (NU ts pts):=by
 refine ⟨fun i k A B e hA hB => ⟨Nat.or_lt_two_pow hB.1 (B8 w e.1 hA.1),fun l hl => ?_⟩,fun i k A B e hA hB hne => ?_⟩
 ·rw [Nat.testBit_or, Bool.or_eq_true] at hl
  rcases hl with hl|hl
  ·exact hB.2 l hl
  ·have hln : l < pts.length ∧ bY pts[l]! = true := by
    have h0 := hl
    unfold xZ at h0
    rw [Nat.testBit_or,dE,Bool.or_eq_true,Bool.and_eq_true] at h0
    rcases h0 with h0|h0
    ·exact tM (hA.2 l h0.1)
    ·rw [testBit_lnB, Bool.and_eq_true, decide_eq_true_eq] at h0
     rw [h0.2]; exact ⟨e.1,h0.1⟩
   rw [mC w e.1 hln.1 hln.2] at hl
   rcases hl with ⟨h1,h2,h3⟩ | ⟨h1,rfl⟩
   ·exact .step (hA.2 l h1) ⟨rfl,e,h2,h3⟩
   ·exact .base ⟨e,h1⟩
 ·have h1 := lK hne
  have h2 := Nat.or_lt_two_pow hB.1 (B8 w e.1 hA.1)
  show 2 ^ pts.length - (B ||| xZ ts pts i A) < 2 ^ pts.length - B
  omega
theorem II {ts:List Int}{pts:List Pnt}(w:WG ts pts){A:List Nat}(h:SG pts (NU ts pts) A) (hc:kX nY (xZ ts pts) pts A):qI ts pts A:=by
 refine ⟨h.1,fun i hi l => ⟨fun hl => (h.2 i hi).2 l hl,fun hm => ?_⟩⟩
 have key : ∀ a : Nat × Nat, Lr ts pts a → (A[a.1]!.testBit a.2 = true ∧ a.2 < pts.length ∧ bY pts[a.2]! = true) := by
  refine Clo.sub (T := fun a : Nat × Nat => A[a.1]!.testBit a.2 = true ∧ a.2 < pts.length ∧ bY pts[a.2]! = true) ?_ ?_
  ·rintro ⟨k, l⟩ ⟨e, hl⟩
   dsimp only at e hl ⊢
   refine ⟨fC.1 (hc l k e) l ?_,e.1,hl⟩
   rw [mC w e.1 e.1 hl]; exact .inr ⟨hl,rfl⟩
  ·rintro ⟨i, l⟩ ⟨k, l'⟩ ⟨ht, hl1, hl2⟩ ⟨rfl, e, hu, hs⟩
   dsimp only at ht hl1 hl2 e hu hs ⊢
   refine ⟨fC.1 (hc i k e) l' ?_,hl1,hl2⟩
   rw [mC w e.1 hl1 hl2]; exact .inl ⟨ht,hu,hs⟩
 exact (key (i,l) hm).1
theorem dU (xs:List Nat):(flat cW xs).length = xs.length := by rw [aI cW (e := 1)]; omega
theorem AT {xs:List Nat}{q:Nat}(h:q < xs.length):(flat cW xs).drop q = .v (.int .u64 ((xs[q]!:Nat):Int)) :: flat cW (xs.drop (q + 1)):=by
 have := eS cW (e := 1) xs q h
 rw [Nat.mul_one] at this;rw [this]; rfl
section
theorem BB {t el z:Nat}{x i:Operand}{xs:List Nat}{k:IntKind}{m:Int}[ht:ArT P t z el] [he:SzT P el 1] [ha:AgT P el false] (hx:ev (lk ts) x = some (.agg (flat cW xs)))
  (hi : ev (lk ts) i = some (.v (.int k m))) (hl : xs.length = z) (hm : 0 ≤ m ∧ m < z) (hN : Nat.blt d N = true) {md' : Md} [hmd : MdA md (rO x ++ rO i) [.inl d] md'] (kk : RW P N all Q md' rest ⟨(d,.v (.int .u64 ((xs[m.toNat]! : Nat) : Int))) :: ts,hs,n,z0⟩) :
  RW P N all Q md (⟨some d,.index t x i,ty,pos,af,none⟩ :: rest) ⟨ts,hs,n,z0⟩ := by
 refine Eb (c := .v (.int .u64 ((xs[m.toNat]! : Nat) : Int))) hx hi ht.pf he.pf ha.pf hm ?_ (dC hN) (by rw [hmd.pf]; exact kk)
 have hlt : m.toNat < xs.length := by omega
 have := congrArg List.head? (AT hlt)
 rw [List.head?_drop] at this
 rw [Nat.mul_one]; exact this
theorem zI {id z:Nat}{t:TypeId}{x:Operand}{xs:List Nat}[ha:AgT P t true] [hz:SzT P t z] (hx:ev (lk ts) x = some (.optr id 0)) (hH:aO hs id = some (flat cW xs)) (hl:xs.length = z) (h0:Nat.blt 0 z = true)
  (hN : Nat.blt d N = true) {md' : Md} [hmd : MdA md (rO x ++ rA (.optr id 0)) [.inl d] md'] (kk : RW P N all Q md' rest ⟨(d,.agg (flat cW xs)) :: ts,hs,n,z0⟩) : RW P N all Q md (⟨some d,.load t x,ty,pos,af,none⟩ :: rest) ⟨ts,hs,n,z0⟩ :=
 kI (cs := flat cW xs) hx ha.pf hz.pf (by simp only [deref,hH,Option.map_some,List.drop_zero]) (List.take_of_length_le (by rw [dU,hl]; exact Nat.le_refl _)) (by rw [dU,hl]) (by have := dC h0;omega) (dC hN) (by rw [hmd.pf]; exact kk)
theorem Bn {id z k:Nat}{t:TypeId}{x:Operand}{xs:List Nat}[ha:AgT P t true] [hz:SzT P t z] (hx:ev (lk ts) x = some (.optr id (0 + k * z))) (hH:aO hs id = some (flat cW xs)) (hl:k * z + z ≤ xs.length) (h0:Nat.blt 0 z = true)
  (hN : Nat.blt d N = true) {md' : Md} [hmd : MdA md (rO x ++ rA (.optr id (0 + k * z))) [.inl d] md'] (kk : RW P N all Q md' rest ⟨(d,.agg (flat cW ((xs.drop (k * z)).take z))) :: ts,hs,n,z0⟩) : RW P N all Q md (⟨some d,.load t x,ty,pos,af,none⟩ :: rest) ⟨ts,hs,n,z0⟩ := by
 have e1 : (flat cW xs).drop (0 + k * z) = flat cW (xs.drop (k * z)) := by
  have := iT cW (e := 1) xs (k * z);rw [Nat.mul_one] at this;rw [Nat.zero_add,this]
 have e2 : (flat cW (xs.drop (k * z))).take z = flat cW ((xs.drop (k * z)).take z) := by
  have := dK cW (e := 1) (xs.drop (k * z)) z;rw [Nat.mul_one] at this;exact this
 exact kI (cs := flat cW (xs.drop (k * z))) hx ha.pf hz.pf (by simp only [deref,hH,Option.map_some]; rw [e1]) e2 (by rw [dU,List.length_take,List.length_drop]; omega) (by have := dC h0;omega) (dC hN) (by rw [hmd.pf]; exact kk)
theorem E0 {id o q:Nat}{t:TypeId}{x:Operand}{xs:List Nat}[ha:AgT P t false] (hx:ev (lk ts) x = some (.optr id o)) (hH:aO hs id = some (flat cW xs)) (ho:o = q) (hq:q < xs.length)
  (hN : Nat.blt d N = true) {md' : Md} [hmd : MdA md (rO x ++ rA (.optr id o)) [.inl d] md'] (kk : RW P N all Q md' rest ⟨(d,.v (.int .u64 ((xs[q]! : Nat) : Int))) :: ts,hs,n,z0⟩) : RW P N all Q md (⟨some d,.load t x,ty,pos,af,none⟩ :: rest) ⟨ts,hs,n,z0⟩ := by
 subst ho
 exact lY hx ha.pf (by simp only [deref,hH,Option.map_some]; rw [AT hq]) rfl (dC hN) (by rw [hmd.pf]; exact kk)
theorem Ao {id z:Nat}{t:TypeId}{x y:Operand}{xs:List Nat}{cs:List AV}[hz:SzT P t z] (hx:ev (lk ts) x = some (.optr id 0)) (hy:ev (lk ts) y = some (.agg (flat cW xs))) (hH:aO hs id = some cs) (hl:xs.length = z) (hc:cs.length = z)
  {md' : Md} [hmd : MdA md (rO x ++ (rO y ++ [.inr id])) [.inr id] md'] (kk : RW P N all Q md' rest ⟨ts,(id,some (flat cW xs)) :: hs,n,z0⟩) : RW P N all Q md (⟨none,.store t x y,ty,pos,af,none⟩ :: rest) ⟨ts,hs,n,z0⟩ :=
 zJ (cs' := flat cW xs) hx hy hz.pf rfl (by rw [dU, hl]) hH (by rw [dU]; omega) (by
  unfold gM
  rw [List.take_zero,List.nil_append,Nat.zero_add,dU,hl,List.drop_of_length_le (by omega),List.append_nil]) (by rw [hmd.pf]; exact kk)
theorem OS {a b:Nat}:0 + a * 6 + b * 1 = a * 6 + b := by omega
theorem OP {a:Nat}:0 + a * 1 = a := by omega
theorem Hu {xs:List Nat}{k v a:Nat}(hk:k * 6 + v < xs.length):gM (flat cW xs) (0 + k * 6 + v * 1) [.v (.int .u64 (a:Int))] = flat cW (xs.set (k * 6 + v) a):=by
 rw [show 0 + k * 6 + v * 1 = 0 + (k * 6 + v) * 1 by omega]; exact CT hk
theorem nQ {T:Nat → Option AV}{H:Nat → Option (List AV)}{a t id z:Nat}{xs:List Nat}[ha:AgT P t true] [hz:SzT P t z] (h1:T a = some (.optr id 0)) (h2:H id = some (flat cW xs)) (hl:xs.length = z) (h0:0 < z) :
  wY P T H [.cell a t] = some [.agg (flat cW xs)] := by
 have e : (flat cW xs).take z = flat cW xs := List.take_of_length_le (by rw [dU,hl]; exact Nat.le_refl _)
 simp only [wY,Jp,h1,deref,h2,Option.map_some,List.drop_zero,ha.pf,hz.pf,e,dU,hl]
 rw [if_pos ⟨trivial,by omega⟩]
end
theorem Hz {m:Nat}:(List.replicate m ([Value.int .u64 0,Value.int .u64 0,Value.int .u64 0,Value.int .u64 0,Value.int .u64 0,Value.int .u64 0].map AV.v)).flatten = flat cW (List.replicate (m * 6) 0):=by
 induction m with
 | zero => rfl
 | succ m ih =>
  rw [List.replicate_succ,List.flatten_cons,ih,Nat.succ_mul,Nat.add_comm,← List.replicate_append_replicate,← cH]
  rfl
def n5 (L : List Int) (f : List Nat) : List Nat := L.foldl (fun f v => f.set v.toNat 0) f
def xH (ts : List Int) (pts : List Pnt) (i : Nat) (f : List Nat) : List Nat :=
 let x := pts[i]!
 let u := n5 (a8 (wS ts x [2])) f
 if aP x < 0 then u else
  let v := (aP x).toNat
  let u2 := if bY x = true then (u.set v 0).set v (2 ^ i) else u.set v 0
  if (bY x = true ∧ gC ts[x.y.toNat]! = true) ∨ x.op = 3 then u2.set v (u2[v]! ||| f[x.y.toNat]!) else u2
theorem pB:∀ (L:List Int) (f:List Nat),(n5 L f).length = f.length
 | [],f => rfl
 | v :: L,f => by show (n5 L (f.set v.toNat 0)).length = _; rw [pB L]; simp
theorem w5:∀ (L:List Int) (f:List Nat) (q:Nat),(n5 L f)[q]! = if ∃ v ∈ L,v.toNat = q then 0 else f[q]!
 | [],f,q => by simp [n5]
 | v :: L, f, q => by
  show (n5 L (f.set v.toNat 0))[q]! = _
  rw [w5 L]
  by_cases h : ∃ v ∈ L,v.toNat = q
  ·rw [if_pos h,if_pos (by obtain ⟨z,h1,h2⟩ := h;exact ⟨z,List.mem_cons_of_mem _ h1,h2⟩)]
  ·rw [if_neg h]
   by_cases hv : v.toNat = q
   ·rw [if_pos ⟨v, List.mem_cons_self, hv⟩]
    subst hv
    by_cases hq : v.toNat < f.length
    ·rw [cU _ _ _ _ hq,if_pos rfl]
    ·rw [getElem!_neg (f.set v.toNat 0) v.toNat (by simpa using hq)]; rfl
   ·rw [if_neg (by rintro ⟨z, hz, e⟩; rcases List.mem_cons.1 hz with rfl | hz; exact hv e; exact h ⟨z, hz, e⟩)]
    simp only [List.getElem!_eq_getElem?_getD,List.getElem?_set_ne hv]
theorem KQ (ts:List Int) (pts:List Pnt) (i:Nat) (f:List Nat):(xH ts pts i f).length = f.length:=by
 unfold xH
 dsimp only
 split
 ·exact pB _ _
 ·split <;> split <;> simp [pB]
theorem LB {L:List Int}{f:List Nat}(h:∀ z:Nat,Sm f[z]!) (z:Nat):Sm (n5 L f)[z]!:=by
 rw [w5]; split
 ·infer_instance
 ·exact h z
theorem BT {f:List Nat}{k a:Nat}(h:∀ z:Nat,Sm f[z]!) (ha:Sm a) (z:Nat):Sm (f.set k a)[z]!:=by
 by_cases hk : k < f.length
 ·rw [cU _ _ _ _ hk]; split
  ·exact ha
  ·exact h z
 ·rw [List.set_eq_of_length_le (by omega)]; exact h z
theorem k4 {x:Pnt}(h:bY x = true):x.op = 4 ∨ x.op = 5 := by simpa [bY] using h
theorem Et {L:List Int}{f:List Nat}{k:Nat}(h:k < L.length):n5 (L.take (k + 1)) f = (n5 (L.take k) f).set (L[k]!).toNat 0:=by
 unfold n5;rw [dG _ _ _ _ h]
theorem lW {A n:Nat}(h:A < 2 ^ n){k:Nat}(hk:k < (a8 A).length):0 ≤ (a8 A)[k]! ∧ (a8 A)[k]! < n:=by
 obtain ⟨v,h1,h2,h3⟩ := cM.1 (aN _ _ hk)
 have := cO h h2
 omega
theorem cA (A:Nat):(a8 A).length ≤ 62:=by
 unfold a8;rw [List.length_map]; exact Nat.le_trans (List.length_filter_le _ _) (by simp)
def cY (A : List Nat) (i : Nat) : List Nat := (A.drop (i * 6)).take 6
theorem eY {A:List Nat}{i v n:Nat}(hA:A.length = n * 6) (hi:i < n) (hv:v < 6):(cY A i)[v]! = A[i * 6 + v]!:=by
 have h2 : i * 6 + v < A.length := by omega
 rw [aS _ _ h2,aS _ _ (by unfold cY;simp;omega)]
 unfold cY;simp
theorem fL {A:List Nat}{i n:Nat}(hA:A.length = n * 6) (hi:i < n):(cY A i).length = 6 := by unfold cY;simp;omega
theorem jH {ts:List Int}{pts:List Pnt}(w:WG ts pts){i v l:Nat}{f:List Nat}(hi:i < pts.length) (hv:v < 6) (hf:f.length = 6) :
  (xH ts pts i f)[v]!.testBit l = true ↔ (aP pts[i]! ≠ v ∧ a6 ts pts[i]! v ≠ 2 ∧ f[v]!.testBit l = true) ∨
   (aP pts[i]! = v ∧ ((bY pts[i]! = true ∧ l = i) ∨ (((bY pts[i]! = true ∧ gC ts[pts[i]!.y.toNat]! = true) ∨ pts[i]!.op = 3) ∧ f[pts[i]!.y.toNat]!.testBit l = true))) := by
 have hst := w.set i hi
 have htl := w.tl
 have hclr : ∀ q : Nat, (n5 (a8 (wS ts pts[i]! [2])) f)[q]! = if a6 ts pts[i]! q = 2 then 0 else f[q]! := by
  intro q
  rw [w5]
  have : (∃ z ∈ a8 (wS ts pts[i]! [2]), z.toNat = q) ↔ a6 ts pts[i]! q = 2 := by
   constructor
   ·rintro ⟨z, hz, rfl⟩
    obtain ⟨q,h1,h2,rfl⟩ := cM.1 hz
    rw [b9] at h2
    simpa using (by simpa using h2 : q < ts.length ∧ a6 ts pts[i]! (q : Int) = 2).2
   ·intro h
    have := A4 w hi (v := q) (by omega)
    exact ⟨(q : Int),cM.2 ⟨q,by omega,by rw [b9,Bool.and_eq_true,decide_eq_true_eq,decide_eq_true_eq]; exact ⟨this,by simp only [List.mem_singleton]; exact h⟩,rfl⟩,rfl⟩
  by_cases h : a6 ts pts[i]! q = 2
  ·rw [if_pos (this.2 h),if_pos h]
  ·rw [if_neg (fun q => h (this.1 q)),if_neg h]
 have hul : (n5 (a8 (wS ts pts[i]! [2])) f).length = 6 := by rw [pB,hf]
 unfold xH
 dsimp only
 generalize n5 (a8 (wS ts pts[i]! [2])) f = u at hclr hul
 by_cases hneg : aP pts[i]! < 0
 ·rw [if_pos hneg, hclr]
  by_cases h2 : a6 ts pts[i]! v = 2
  ·rw [if_pos h2, Nat.zero_testBit]
   constructor
   ·intro h;cases h
   ·rintro (h | h)
    ·exact absurd h2 h.2.1
    ·omega
  ·rw [if_neg h2]
   constructor
   ·intro h;exact .inl ⟨by omega,h2,h⟩
   ·rintro (h | h)
    ·exact h.2.2
    ·omega
 ·rw [if_neg hneg]
  have hsv : (aP pts[i]!).toNat < 6 := by omega
  have heq : ∀ q : Nat,q = (aP pts[i]!).toNat ↔ aP pts[i]! = q := by intro q;omega
  -- the slot before the last step
  have hu2 : ∀ q : Nat, (if bY pts[i]! = true then (u.set (aP pts[i]!).toNat 0).set (aP pts[i]!).toNat (2 ^ i) else u.set (aP pts[i]!).toNat 0)[q]! = if q = (aP pts[i]!).toNat then (if bY pts[i]! = true then 2 ^ i else 0) else u[q]! := by
   intro q
   by_cases hl : bY pts[i]! = true
   ·rw [if_pos hl, if_pos hl, cU _ _ _ _ (by rw [List.length_set]; omega), cU _ _ _ _ (by omega)]
    split <;> rfl
   ·rw [if_neg hl,if_neg hl,cU _ _ _ _ (by omega)]
  have hu2l : (if bY pts[i]! = true then (u.set (aP pts[i]!).toNat 0).set (aP pts[i]!).toNat (2 ^ i) else u.set (aP pts[i]!).toNat 0).length = 6 := by split <;> simp [hul]
  generalize (if bY pts[i]! = true then (u.set (aP pts[i]!).toNat 0).set (aP pts[i]!).toNat (2 ^ i) else u.set (aP pts[i]!).toNat 0) = u2 at hu2 hu2l
  have hln : ∀ l : Nat, (if bY pts[i]! = true then 2 ^ i else 0).testBit l = true ↔ bY pts[i]! = true ∧ l = i := by
   intro l
   have := @testBit_lnB pts i l
   unfold L4 at this
   rw [this]; simp
  by_cases hc : (bY pts[i]! = true ∧ gC ts[pts[i]!.y.toNat]! = true) ∨ pts[i]!.op = 3
  ·rw [if_pos hc, cU _ _ _ _ (by omega)]
   by_cases hv2 : v = (aP pts[i]!).toNat
   ·have hs := (heq v).1 hv2
    rw [if_pos hv2,← hv2,hu2,if_pos hv2,Nat.testBit_or,Bool.or_eq_true,hln]
    constructor
    ·rintro (h | h)
     ·exact .inr ⟨hs,.inl h⟩
     ·exact .inr ⟨hs,.inr ⟨hc,h⟩⟩
    ·rintro (h | ⟨_, h | h⟩)
     ·exact absurd hs h.1
     ·exact .inl h
     ·exact .inr h.2
   ·have hs : aP pts[i]! ≠ v := fun h => hv2 ((heq v).2 h)
    rw [if_neg hv2,hu2,if_neg hv2,hclr]
    by_cases h2 : a6 ts pts[i]! v = 2
    ·rw [if_pos h2, Nat.zero_testBit]
     constructor
     ·intro h;cases h
     ·rintro (h | h)
      ·exact absurd h2 h.2.1
      ·exact absurd h.1 hs
    ·rw [if_neg h2]
     constructor
     ·intro h;exact .inl ⟨hs,h2,h⟩
     ·rintro (h | h)
      ·exact h.2.2
      ·exact absurd h.1 hs
  ·rw [if_neg hc, hu2]
   by_cases hv2 : v = (aP pts[i]!).toNat
   ·have hs := (heq v).1 hv2
    rw [if_pos hv2,hln]
    constructor
    ·intro h;exact .inr ⟨hs,.inl h⟩
    ·rintro (h | ⟨_, h | h⟩)
     ·exact absurd hs h.1
     ·exact h
     ·exact absurd h.1 hc
   ·have hs : aP pts[i]! ≠ v := fun h => hv2 ((heq v).2 h)
    rw [if_neg hv2,hclr]
    by_cases h2 : a6 ts pts[i]! v = 2
    ·rw [if_pos h2, Nat.zero_testBit]
     constructor
     ·intro h;cases h
     ·rintro (h | h)
      ·exact absurd h2 h.2.1
      ·exact absurd h.1 hs
    ·rw [if_neg h2]
     constructor
     ·intro h;exact .inl ⟨hs,h2,h⟩
     ·rintro (h | h)
      ·exact h.2.2
      ·exact absurd h.1 hs
def NH (ts : List Int) (pts : List Pnt) (i v A : Nat) : Prop := A < 2 ^ pts.length ∧ ∀ l,A.testBit l = true → I1 ts pts (i,v,l)
def SF (ts : List Int) (pts : List Pnt) (s : List Nat) : Prop := s.length = pts.length * 6 ∧ ∀ i v,i < pts.length → v < 6 → NH ts pts i v s[i * 6 + v]!
def qP (ts : List Int) (pts : List Pnt) (A : List Nat) : Prop := A.length = pts.length * 6 ∧ ∀ i v,i < pts.length → v < 6 → ∀ l,A[i * 6 + v]!.testBit l = true ↔ I1 ts pts (i,v,l)
theorem Fa {ts:List Int}{pts:List Pnt}{A B:List Nat}(h1:qP ts pts A) (h2:qP ts pts B):A = B:=by
 refine kC h1.1 h2.1 fun q hq v => ?_
 have e : q = q / 6 * 6 + q % 6 := by omega
 have h3 : q / 6 < pts.length := by omega
 have h4 : q % 6 < 6 := by omega
 have a := h1.2 (q / 6) (q % 6) h3 h4 v
 have b := h2.2 (q / 6) (q % 6) h3 h4 v
 rw [← e] at a b
 exact a.trans b.symm
def pQ (a : List Nat) (k : Nat) (s : List Nat × Bool) (v : Nat) : List Nat × Bool := kZ nY a[v]! s (k * 6 + v)
def uT (a : List Nat) (s : List Nat × Bool) (k : Nat) : List Nat × Bool := (List.range 6).foldl (pQ a k) s
def Cr (ts : List Int) (pts : List Pnt) (s : List Nat × Bool) (i : Nat) : List Nat × Bool := (uK pts i).foldl (uT (xH ts pts i (cY s.1 i))) s
def Hg (ts : List Int) (pts : List Pnt) (s : List Nat × Bool) : List Nat × Bool := (List.range pts.length).foldl (Cr ts pts) s
theorem Hx {a b n:Nat}(h1:a < 2 ^ n) (h2:b < 2 ^ n):a ||| b < 2 ^ n := Nat.or_lt_two_pow h1 h2
theorem C8 {ts:List Int}{pts:List Pnt}(w:WG ts pts){s:List Nat}(h:SF ts pts s){i k v:Nat}(e:cE pts i k) (hv:v < 6):NH ts pts k v (xH ts pts i (cY s i))[v]!:=by
 have hi := e.1
 have hrl := fL h.1 hi
 have htl := w.tl
 have key : ∀ l, (xH ts pts i (cY s i))[v]!.testBit l = true → l < pts.length ∧ I1 ts pts (k, v, l) := by
  intro l hl
  rw [jH w hi hv hrl] at hl
  rcases hl with ⟨h1,h2,h3⟩ | ⟨h1,⟨h2,rfl⟩ | ⟨h2,h3⟩⟩
  ·rw [eY h.1 hi hv] at h3
   have hp := h.2 i v hi hv
   exact ⟨cO hp.1 h3,.step (hp.2 l h3) ⟨rfl,e,.inl ⟨h1,rfl,h2⟩⟩⟩
  ·exact ⟨hi,.base ⟨e,h2,h1⟩⟩
  ·have hy : 0 ≤ pts[i]!.y ∧ pts[i]!.y < ts.length := by
    have := w.y i hi
    rcases h2 with ⟨h2,_⟩|h2
    ·have := k4 h2;omega
    ·omega
   have hy6 : pts[i]!.y.toNat < 6 := by omega
   rw [eY h.1 hi hy6] at h3
   have hp := h.2 i _ hi hy6
   exact ⟨cO hp.1 h3,.step (hp.2 l h3) ⟨rfl,e,.inr ⟨h1,by show ((pts[i]!.y.toNat : Nat) : Int) = pts[i]!.y;omega,h2⟩⟩⟩
 refine ⟨?_,fun l hl => (key l hl).2⟩
 apply Nat.lt_pow_two_of_testBit
 intro l hl
 cases hq : (xH ts pts i (cY s i))[v]!.testBit l with
 | false => rfl
 | true => have := (key l hq).1;omega
theorem AB {ts:List Int}{pts:List Pnt}{a:List Nat}{k:Nat}(hk:k < pts.length) (ha:∀ v,v < 6 → NH ts pts k v a[v]!) (s:List Nat) (b:Bool) (v:Nat) (hv:v < 6) (h:SF ts pts s) :
  SF ts pts (pQ a k (s,b) v).1 ∧ ((pQ a k (s,b) v = (s,b) ∧ nY s[k * 6 + v]! a[v]! = s[k * 6 + v]!) ∨ ((pQ a k (s,b) v).2 = true ∧ eT ((pQ a k (s,b) v).1.map (fun x => 2 ^ pts.length - x)) < eT (s.map (fun x => 2 ^ pts.length - x)))) := by
 unfold pQ kZ
 dsimp only
 have hq : k * 6 + v < s.length := by rw [h.1]; omega
 have hp := h.2 k v hk hv
 by_cases hc : nY s[k * 6 + v]! a[v]! ≠ s[k * 6 + v]!
 ·rw [if_pos hc]
  have hb := Hx hp.1 (ha v hv).1
  refine ⟨⟨by simp [h.1],fun i u hi hu => ?_⟩,.inr ⟨rfl,?_⟩⟩
  ·dsimp only
   rw [cU _ _ _ _ hq]
   split
   ·rename_i e
    obtain rfl : i = k := by omega
    obtain rfl : u = v := by omega
    refine ⟨hb,fun l hl => ?_⟩
    rw [Nat.testBit_or,Bool.or_eq_true] at hl
    rcases hl with hl|hl
    ·exact hp.2 l hl
    ·exact (ha _ hv).2 l hl
   ·exact h.2 i u hi hu
  ·have h1 := oW (fun x => 2 ^ pts.length - x) s (k * 6 + v) (nY s[k * 6 + v]! a[v]!) hq
   have h2 := lK hc
   dsimp only at h1 ⊢
   have h3 : nY s[k * 6 + v]! a[v]! < 2 ^ pts.length := hb
   have h4 : s[k * 6 + v]! < nY s[k * 6 + v]! a[v]! := h2
   omega
 ·rw [if_neg hc]
  exact ⟨h,.inl ⟨rfl,Classical.not_not.1 hc⟩⟩
theorem G2 {ts:List Int}{pts:List Pnt}{a:List Nat}{k:Nat}(hk:k < pts.length) (ha:∀ v,v < 6 → NH ts pts k v a[v]!) (s:List Nat) (b:Bool) (h:SF ts pts s) :
  SF ts pts (uT a (s,b) k).1 ∧ ((uT a (s,b) k = (s,b) ∧ ∀ v,v < 6 → nY s[k * 6 + v]! a[v]! = s[k * 6 + v]!) ∨ ((uT a (s,b) k).2 = true ∧ eT ((uT a (s,b) k).1.map (fun x => 2 ^ pts.length - x)) < eT (s.map (fun x => 2 ^ pts.length - x)))) := by
 have := iO (pQ a k) (fun v s => nY s[k * 6 + v]! a[v]! = s[k * 6 + v]!) (fun s => eT (s.map (fun x => 2 ^ pts.length - x))) (SF ts pts) (List.range 6)
  (fun s' b' v hv hs => AB hk ha s' b' v (List.mem_range.1 hv) hs) s b h
 refine ⟨this.1,?_⟩
 rcases this.2 with ⟨e1,e2⟩|h2
 ·exact .inl ⟨e1,fun v hv => e2 v (List.mem_range.2 hv)⟩
 ·exact .inr h2
theorem IV {ts:List Int}{pts:List Pnt}(w:WG ts pts) (s:List Nat) (b:Bool) (i:Nat) (hi:i < pts.length) (h:SF ts pts s) :
  SF ts pts (Cr ts pts (s, b) i).1 ∧ ((Cr ts pts (s, b) i = (s, b) ∧ ∀ k, cE pts i k → ∀ v, v < 6 → nY s[k * 6 + v]! (xH ts pts i (cY s i))[v]! = s[k * 6 + v]!) ∨
   ((Cr ts pts (s,b) i).2 = true ∧ eT ((Cr ts pts (s,b) i).1.map (fun x => 2 ^ pts.length - x)) < eT (s.map (fun x => 2 ^ pts.length - x)))) := by
 have := iO (uT (xH ts pts i (cY s i))) (fun k s' => ∀ v, v < 6 → nY s'[k * 6 + v]! (xH ts pts i (cY s i))[v]! = s'[k * 6 + v]!) (fun s => eT (s.map (fun x => 2 ^ pts.length - x))) (SF ts pts) (uK pts i)
  (fun s' b' k hk hs => by
   have e := (pI w hi).1 hk
   exact G2 (c8 w e) (fun v hv => C8 w h e hv) s' b' hs) s b h
 refine ⟨this.1,?_⟩
 rcases this.2 with ⟨e1,e2⟩|h2
 ·exact .inl ⟨e1,fun k e => e2 k ((pI w hi).2 e)⟩
 ·exact .inr h2
def xT (ts : List Int) (pts : List Pnt) (s : List Nat) : Prop := ∀ i k,cE pts i k → ∀ v,v < 6 → nY s[k * 6 + v]! (xH ts pts i (cY s i))[v]! = s[k * 6 + v]!
theorem F9 {ts:List Int}{pts:List Pnt}(w:WG ts pts) (s:List Nat) (b:Bool) (h:SF ts pts s) :
  SF ts pts (Hg ts pts (s,b)).1 ∧ ((Hg ts pts (s,b) = (s,b) ∧ xT ts pts s) ∨ ((Hg ts pts (s,b)).2 = true ∧ eT ((Hg ts pts (s,b)).1.map (fun x => 2 ^ pts.length - x)) < eT (s.map (fun x => 2 ^ pts.length - x)))) := by
 have := iO (Cr ts pts) (fun i s => ∀ k, cE pts i k → ∀ v, v < 6 → nY s[k * 6 + v]! (xH ts pts i (cY s i))[v]! = s[k * 6 + v]!) (fun s => eT (s.map (fun x => 2 ^ pts.length - x))) (SF ts pts) (List.range pts.length)
  (fun s' b' i hi hs => IV w s' b' i (List.mem_range.1 hi) hs) s b h
 refine ⟨this.1,?_⟩
 rcases this.2 with ⟨e1,e2⟩|h2
 ·exact .inl ⟨e1,fun i k e => e2 i (List.mem_range.2 e.1) k e⟩
 ·exact .inr h2
theorem Dz {ts:List Int}{pts:List Pnt}(w:WG ts pts){a:Nat × Nat × Nat}(h:I1 ts pts a):a.1 < pts.length ∧ a.2.1 < ts.length ∧ a.2.2 < pts.length:=by
 induction h with
 | @base a h =>
  have h1 := (w.set _ h.1.1).1
  have h2 := h.2.2
  exact ⟨c8 w h.1,by omega,h.1.1⟩
 | @step a b _ r ih =>
  refine ⟨c8 w r.2.1,?_,by rw [r.1]; exact ih.2.2⟩
  rcases r.2.2 with ⟨_,h,_⟩ | ⟨h,_⟩
  ·rw [h]; exact ih.2.1
  ·have h1 := (w.set _ r.2.1.1).1
   omega
theorem IA {ts:List Int}{pts:List Pnt}(w:WG ts pts){A:List Nat}(h:SF ts pts A) (hc:xT ts pts A):qP ts pts A:=by
 refine ⟨h.1,fun i v hi hv l => ⟨fun hl => (h.2 i v hi hv).2 l hl,fun hm => ?_⟩⟩
 have htl := w.tl
 have key : ∀ a : Nat × Nat × Nat, I1 ts pts a → A[a.1 * 6 + a.2.1]!.testBit a.2.2 = true ∧ a.2.1 < ts.length := by
  refine Clo.sub (T := fun a : Nat × Nat × Nat => A[a.1 * 6 + a.2.1]!.testBit a.2.2 = true ∧ a.2.1 < ts.length) ?_ ?_
  ·rintro ⟨k, v, l⟩ ⟨e, hl, hs⟩
   dsimp only at e hl hs ⊢
   have h1 := (w.set _ e.1).1
   have hv : v < 6 := by omega
   refine ⟨fC.1 (hc l k e v hv) l ?_,by omega⟩
   rw [jH w e.1 hv (fL h.1 e.1)]
   exact .inr ⟨hs,.inl ⟨hl,rfl⟩⟩
  ·rintro ⟨i, v, l⟩ ⟨k, v', l'⟩ ⟨ht, hv⟩ ⟨rfl, e, hd⟩
   dsimp only at ht hv e hd ⊢
   have h1 := (w.set _ e.1).1
   rcases hd with ⟨g1,rfl,g3⟩ | ⟨g1,g2,g3⟩
   ·refine ⟨fC.1 (hc i k e v' (by omega)) l' ?_, hv⟩
    rw [jH w e.1 (by omega) (fL h.1 e.1),eY h.1 e.1 (by omega)]
    exact .inl ⟨g1,g3,ht⟩
   ·refine ⟨fC.1 (hc i k e v' (by omega)) l' ?_, by omega⟩
    rw [jH w e.1 (by omega) (fL h.1 e.1)]
    have : pts[i]!.y.toNat = v := by omega
    rw [this,eY (v := v) h.1 e.1 (by omega)]
    exact .inr ⟨g1,.inr ⟨g3,ht⟩⟩
 exact (key (i,v,l) hm).1
theorem Nr {ts:List Int}{pts:List Pnt}:SF ts pts (List.replicate (pts.length * 6) 0):=by
 refine ⟨by simp,fun i v hi hv => ?_⟩
 rw [aS _ _ (by simp;omega),List.getElem_replicate]
 exact ⟨Nat.pow_pos (by decide),fun l h => by simp at h⟩
theorem Lp {ts:List Int}{pts:List Pnt}(w:WG ts pts){s:List Nat}(h:SF ts pts s) (q:Nat):Sm s[q]!:=by
 have hpl := w.pl
 by_cases hq : q < s.length
 ·have e : q = q / 6 * 6 + q % 6 := by omega
  have := h.1
  have := (h.2 (q / 6) (q % 6) (by omega) (by omega)).1
  rw [← e] at this
  exact ⟨Nat.lt_of_lt_of_le this (Nat.pow_le_pow_right (by decide) (by omega))⟩
 ·rw [getElem!_neg s q hq]; exact ⟨by decide⟩
theorem vU (a:List Nat) (k v:Nat) (s:List Nat × Bool):(List.range (v + 1)).foldl (pQ a k) s = pQ a k ((List.range v).foldl (pQ a k) s) v := dL _ _ _
theorem Fb {a:List Nat}{pts:List Pnt}{i j:Nat}(h:j < pts[i]!.next.length) (s:List Nat × Bool) :
  ((uK pts i).take (j + 1)).foldl (uT a) s = uT a (((uK pts i).take j).foldl (uT a) s) (pts[i]!.next[j]!).toNat := by
 rw [dG _ _ _ _ (by rw [kU]; exact h),xM h]
section
theorem k6 {e:Nat}(hM:Nat.blt n aV = true) (hN:Nat.blt d N = true) (kk:RW P N all Q .txt rest ⟨(d,.own n 0 0 e) :: ts,(n,some []) :: hs,n + 1,z0⟩) :
  RW P N all Q .txt (⟨some d,.assign (.const (.slice none 0 0)),ty,pos,af,none⟩ :: rest) ⟨ts,hs,n,z0⟩ := by
 refine vE (av := .v (.slice none 0 0)) rfl hN (md' := .txt) (cX kk ((Le.nilOwn (d := d) e (by simp [k7]) (dC hM)).trans ?_))
 refine Le.of (fun t av h => ?_) (fun i c h => h) (Nat.le_refl _) rfl
 show lk ((d,.own n 0 0 e) :: (d,.v (.slice none 0 0)) :: ts) t = _
 have h' : lk ((d,.own n 0 0 e) :: ts) t = some av := h
 simp only [k7] at h' ⊢
 split
 ·rename_i q;rw [if_pos q] at h'; exact h'
 ·rename_i q;rw [if_neg q] at h'; exact h'
theorem B1 {xs:List Nat}{t el m:Nat}{x i:Operand}{kk0:IntKind}{k:Int}[ht:SlT P t el] [he:SzT P el 6] (hx:ev (lk ts) x = some (.imm m (flat cW xs)))
  (hi : ev (lk ts) i = some (.v (.int kk0 k))) (hm : 0 ≤ k ∧ k < m) (hN : Nat.blt d N = true) {md' : Md} [hmd : MdA md (rO x ++ rO i) [.inl d] md'] (kk : RW P N all Q md' rest ⟨(d,.iptr (flat cW (xs.drop (k.toNat * 6)))) :: ts,hs,n,z0⟩) :
  RW P N all Q md (⟨some d,.indexAddr t x i,ty,pos,af,none⟩ :: rest) ⟨ts,hs,n,z0⟩ :=
 fS (out := .iptr (flat cW (xs.drop (k.toNat * 6)))) hx hi ht.pf he.pf (by
  simp only [Ai]; rw [if_pos hm]
  have := iT cW (e := 1) xs (k.toNat * 6);rw [Nat.mul_one] at this;rw [this]) (dC hN) (by rw [hmd.pf]; exact kk)
theorem AU {z:Nat}{t:TypeId}{x:Operand}{xs:List Nat}[ha:AgT P t true] [hz:SzT P t z] (hx:ev (lk ts) x = some (.iptr (flat cW xs))) (hl:z ≤ xs.length) (h0:Nat.blt 0 z = true)
  (hN : Nat.blt d N = true) {md' : Md} [hmd : MdA md (rO x ++ rA (.iptr (flat cW xs))) [.inl d] md'] (kk : RW P N all Q md' rest ⟨(d,.agg (flat cW (xs.take z))) :: ts,hs,n,z0⟩) : RW P N all Q md (⟨some d,.load t x,ty,pos,af,none⟩ :: rest) ⟨ts,hs,n,z0⟩ := by
 have e2 : (flat cW xs).take z = flat cW (xs.take z) := by have := dK cW (e := 1) xs z;rw [Nat.mul_one] at this;exact this
 exact kI (cs := flat cW xs) hx ha.pf hz.pf rfl e2 (by rw [dU,List.length_take]; omega) (by have := dC h0;omega) (dC hN) (by rw [hmd.pf]; exact kk)
end
end Go.AL
