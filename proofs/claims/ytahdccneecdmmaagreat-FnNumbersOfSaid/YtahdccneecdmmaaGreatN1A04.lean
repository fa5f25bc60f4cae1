/-
 A part of the proofs over this program: rules and contracts of its functions (the rules).
-/
import Derived.Test.YtahdccneecdmmaaGreatN1A03
set_option linter.unusedVariables false
set_option linter.unusedSimpArgs false
namespace Go.AL
open Go.RowKit
section
variable {P : Program} {N : Nat} {Q : Exit → AS → Prop} {all : Array Oper} {rest : List Oper} {ts : List (Nat × AV)} {hs : List (Nat × Option (List AV))} {n : Nat} {z0 : Lo} {md : Md}
variable {d : Nat} {ty : TypeId} {pos : String} {af : Array Edge}
def rC : AV → Option (FuncId × List AV × List AV)
 | .clos (.func k) f c => some (k,f,c)
 | .v (.func (.func k) ⟨[]⟩ ⟨[]⟩) => some (k,[],[])
 | _ => none
theorem Bo {w:World}{bad:Nat → Prop}{ι:Pl}{av:AV}{y:Value}{k:FuncId}{f c:List AV}(h:rC av = some (k,f,c)) (hy:Rd w bad ι av y) :
  ∃ lf lc : List Value,y = .func (.func k) lf.toArray lc.toArray ∧ RdV w bad ι f lf ∧ RdV w bad ι c lc := by
 unfold rC at h
 split at h
 ·cases h;simpa only [Rd] using hy
 ·cases h;simp only [Rd] at hy;exact ⟨[],[],hy,by simp [RdV],by simp [RdV]⟩
 ·cases h
theorem jY {w:World}{bad:Nat → Prop}{ι:Pl}:∀ {a b:List AV}{la lb:List Value},RdV w bad ι a la → RdV w bad ι b lb → RdV w bad ι (a ++ b) (la ++ lb)
 | [],b,la,lb,h1,h2 => by simp only [RdV] at h1;subst h1;exact h2
 | x :: a, b, la, lb, h1, h2 => by
  simp only [RdV] at h1
  obtain ⟨y,l',rfl,h3,h4⟩ := h1
  simp only [List.cons_append,RdV]
  exact ⟨y,_,rfl,h3,jY h4 h2⟩
theorem v9 {k:FuncId}{t:Nat}{args:Array Operand}{tys:Array TypeId}(hc:c5 P k = true) (dst:Option Tmp) (a:Act) (w:World){lf lc:List Value}(hy:a.eval (.tmp t) = .func (.func k) lf.toArray lc.toArray) :
  (execOp a.eval ⟨dst,.call ⟨.value (.tmp t),args,tys⟩,ty,pos,af,none⟩).run P w = .ok (.enter k (lf ++ args.toList.map a.eval ++ lc).toArray) w := by
 simp only [execOp,Sem.run_bind,resolve,hy,Deferred.ofValue,Sem.run_pure,Result.andThen_ok,invoke,uR hc]
 congr 2
 apply Array.ext'
 simp
theorem DN {k:FuncId}{t:Nat}{args:Array Operand}{tys:Array TypeId}{avs f c:List AV}{fv:AV}{r:AV}(hc:c5 P k = true) (hx:lk ts t = some fv) (hcl:rC fv = some (k,f,c)) (ha:evL (lk ts) args.toList = some avs)
  (h : PC P k (f ++ avs ++ c) (fun x => x = r)) (hp : aZ (f ++ avs ++ c) = true) (hN : d < N)
  (kk : RW P N all Q (md.add (rO (.tmp t) ++ dV args.toList) [.inl d]) rest ⟨(d,r) :: ts,hs,n,z0⟩) : RW P N all Q md (⟨some d,.call ⟨.value (.tmp t),args,tys⟩,ty,pos,af,none⟩ :: rest) ⟨ts,hs,n,z0⟩ := by
 refine fX (rs := rO (.tmp t) ++ dV args.toList) (ws := []) (n' := n) (out := r) rfl (Nat.le_refl _) (.inl rfl) (fun C ι F T H a w K Q' hCN ag hF g gh hK => ?_) (fun x hx => by cases hx;exact hN) kk
 obtain ⟨lf,lc,hy,h1,h2⟩ := Bo hcl (a7 g (x := .tmp t) (ag.l.ev.trans hx))
 simp only [Oper.wp,v9 hc _ a w hy,Oper.upon]
 refine (lW h hp gh (jY (jY h1 (eR g (ag.r.evL.trans ha))) h2)).mono ?_
 rintro e w' ⟨v,r',rfl,h2,h3,h4,h5,h6⟩
 subst h2
 exact hK ι w' v (g.carry h5) (h4.less (fun _ _ h => h) (fun j hj => hj.1)).1 h6
theorem iR {k:FuncId}{t:Nat}{args:Array Operand}{tys:Array TypeId}{avs f c:List AV}{fv:AV}{r:AV}(hx:lk ts t = some fv) (hcl:rC fv = some (k,f,c)) (hc:CaT P k) (ha:evL (lk ts) args.toList = some avs)
  (h : PC P k (f ++ avs ++ c) (fun x => x = r)) (hp : aZ (f ++ avs ++ c) = true) (hN : Nat.blt d N = true) {md' : Md} [hmd : MdA md (rO (.tmp t) ++ dV args.toList) [.inl d] md']
  (kk : RW P N all Q md' rest ⟨(d,r) :: ts,hs,n,z0⟩) : RW P N all Q md (⟨some d,.call ⟨.value (.tmp t),args,tys⟩,ty,pos,af,none⟩ :: rest) ⟨ts,hs,n,z0⟩ :=
 DN hc.pf hx hcl ha h hp (b0 hN) (by rw [hmd.pf]; exact kk)
theorem iZ {fn:Go.Fn}{fs cs:Array Operand}{f c:List AV}(hf:evL (lk ts) fs.toList = some f) (hc:evL (lk ts) cs.toList = some c) (hN:Nat.blt d N = true){md':Md}[hmd:MdA md (dV fs.toList ++ dV cs.toList) [.inl d] md']
  (kk : RW P N all Q md' rest ⟨(d,.clos fn f c) :: ts,hs,n,z0⟩) : RW P N all Q md (⟨some d,.makeFunc fn fs cs,ty,pos,af,none⟩ :: rest) ⟨ts,hs,n,z0⟩ := by
 refine cM (out := .clos fn f c) (rs := dV fs.toList ++ dV cs.toList) rfl rfl (b0 hN) (fun C ι F T H a w ag g gh => ?_) (by rw [hmd.pf]; exact kk)
 refine ⟨.func fn (fs.map a.eval) (cs.map a.eval),by simp [execOp,Instr.makeFunc],?_⟩
 simp only [Rd]
 exact ⟨fs.toList.map a.eval,cs.toList.map a.eval,by rw [← Array.toList_map,← Array.toList_map,Array.toArray_toList,Array.toArray_toList],eR g (ag.l.evL.trans hf),eR g (ag.r.evL.trans hc)⟩
end
class Sm (n : Nat) : Prop where pf : n < 2 ^ 62
instance (a b : Nat) [h : Sm a] : Sm (a >>> b):=⟨Nat.lt_of_le_of_lt (by rw [Nat.shiftRight_eq_div_pow]; exact Nat.div_le_self _ _) h.pf⟩
instance : Sm 1:=⟨by decide⟩
theorem Sm.pow {k:Nat}(h:k < 62):Sm (2 ^ k) := ⟨Nat.pow_lt_pow_right (by decide) h⟩
class K6 (k : IntKind) : Prop where pf : k = .i64 ∨ k = .u64
instance : K6 .i64:=⟨.inl rfl⟩
instance : K6 .u64:=⟨.inr rfl⟩
theorem qP {k:IntKind}[hk:K6 k] {a:Nat}(h:a < 2 ^ 62):k.wrap (a:Int) = (a:Int):=by
 rcases hk.pf with rfl|rfl
 ·exact uJ (by omega)
 ·simp only [IntKind.wrap]
  first
  | (simp [IntKind.bits,IntKind.signed]; omega)
  | omega
theorem yK {k:IntKind}[hk:K6 k]:k.bits = 64 := by rcases hk.pf with rfl | rfl <;> rfl
theorem kB (a:Nat) (h:a < 2 ^ 62):BitVec.ofInt 64 (a:Int) = BitVec.ofNat 64 a := lX (a:Int) ⟨by omega,by omega⟩
theorem kU (a:Nat) (h:a < 2 ^ 62):(BitVec.ofNat 64 a).toNat = a := by rw [BitVec.toNat_ofNat,Nat.mod_eq_of_lt (by omega)]
theorem EC {k:IntKind}[hk:K6 k] (a b:Nat) [ha:Sm a] [hb:Sm b]:eD .or k a b = some (.int k ((a ||| b:Nat):Int)):=by
 simp only [eD]; rw [yK,kB a ha.pf,kB b hb.pf,BitVec.toNat_or,kU a ha.pf,kU b hb.pf,qP (Nat.or_lt_two_pow ha.pf hb.pf)]
theorem DD {k:IntKind}[hk:K6 k] (a b:Nat) [ha:Sm a] [hb:Sm b]:eD .and k a b = some (.int k ((a &&& b:Nat):Int)):=by
 simp only [eD]; rw [yK,kB a ha.pf,kB b hb.pf,BitVec.toNat_and,kU a ha.pf,kU b hb.pf,qP (Nat.and_lt_two_pow _ hb.pf)]
theorem Am {k:IntKind}[hk:K6 k] (m:Int) (h:0 ≤ m ∧ m < 62):eD .shl k 1 m = some (.int k ((2 ^ m.toNat:Nat):Int)):=by
 obtain ⟨j,rfl⟩ := Int.eq_ofNat_of_zero_le h.1
 simp only [eD]
 rw [if_neg (by omega),yK,Int.toNat_natCast,Nat.min_eq_left (by omega),Int.one_mul]
 rw [show ((2 : Int) ^ j) = ((2 ^ j : Nat) : Int) by simp,qP (Sm.pow (by omega)).pf]
theorem Cm {k:IntKind}[hk:K6 k] (a:Nat) [ha:Sm a] (m:Int) (h:0 ≤ m ∧ m < 64):eD .shr k a m = some (.int k ((a >>> m.toNat:Nat):Int)):=by
 obtain ⟨j,rfl⟩ := Int.eq_ofNat_of_zero_le h.1
 simp only [eD]
 rw [if_neg (by omega),yK,Int.toNat_natCast,Nat.min_eq_left (by omega)]
 congr 2
 rw [Nat.shiftRight_eq_div_pow,Int.fdiv_eq_ediv_of_nonneg _ (by exact Int.le_of_lt (Int.pow_pos (by decide)))]
 simp
section
variable {P : Program} {N : Nat} {Q : Exit → AS → Prop} {all : Array Oper} {rest : List Oper} {ts : List (Nat × AV)} {hs : List (Nat × Option (List AV))} {n : Nat} {z0 : Lo} {md : Md}
variable {d : Nat} {ty : TypeId} {pos : String} {af : Array Edge}
theorem Hb {k:IntKind}{t t':TypeId}{x y:Operand}{a b:Nat}(hx:ev (lk ts) x = some (.v (.int k (a:Int)))) (hy:ev (lk ts) y = some (.v (.int k (b:Int)))) (hk:K6 k) (ha:Sm a) (hb:Sm b)
  (hN : Nat.blt d N = true) {md' : Md} [hmd : MdA md (rO x ++ rO y) [.inl d] md'] (kk : RW P N all Q md' rest ⟨(d,.v (.int k ((a ||| b : Nat) : Int))) :: ts,hs,n,z0⟩) : RW P N all Q md (⟨some d,.binOp .or t x y t',ty,pos,af,none⟩ :: rest) ⟨ts,hs,n,z0⟩ :=
 cZ hx hy (.inl rfl) (EC a b) (b0 hN) (by rw [hmd.pf]; exact kk)
theorem yN {k k':IntKind}{t t':TypeId}{x y:Operand}{m:Int}(hx:ev (lk ts) x = some (.v (.int k 1))) (hy:ev (lk ts) y = some (.v (.int k' m))) (hk:K6 k) (h:0 ≤ m ∧ m < 62)
  (hN : Nat.blt d N = true) {md' : Md} [hmd : MdA md (rO x ++ rO y) [.inl d] md'] (kk : Sm (2 ^ m.toNat) → RW P N all Q md' rest ⟨(d,.v (.int k ((2 ^ m.toNat : Nat) : Int))) :: ts,hs,n,z0⟩) : RW P N all Q md (⟨some d,.binOp .shl t x y t',ty,pos,af,none⟩ :: rest) ⟨ts,hs,n,z0⟩ :=
 cZ hx hy (.inr (.inl rfl)) (Am m h) (b0 hN) (by rw [hmd.pf]; exact kk (Sm.pow (by omega)))
theorem FN {k k':IntKind}{t t':TypeId}{x y:Operand}{a:Nat}{m:Int}(hx:ev (lk ts) x = some (.v (.int k (a:Int)))) (hy:ev (lk ts) y = some (.v (.int k' m))) (hk:K6 k) (ha:Sm a) (h:0 ≤ m ∧ m < 64)
  (hN : Nat.blt d N = true) {md' : Md} [hmd : MdA md (rO x ++ rO y) [.inl d] md'] (kk : RW P N all Q md' rest ⟨(d,.v (.int k ((a >>> m.toNat : Nat) : Int))) :: ts,hs,n,z0⟩) : RW P N all Q md (⟨some d,.binOp .shr t x y t',ty,pos,af,none⟩ :: rest) ⟨ts,hs,n,z0⟩ :=
 cZ hx hy (.inr (.inr rfl)) (Cm a m h) (b0 hN) (by rw [hmd.pf]; exact kk)
end
mutual
def qC : Stmt → Nat
 | .mk op _ _ _ th el => if op = 9 then 2 + cH th + cH el else if op = 10 then 2 + cH th else 1
def cH : List Stmt → Nat
 | [] => 0
 | s :: l => qC s + cH l
end
mutual
def yB (b : Nat) : Stmt → List Pnt
 | .mk op x y n th el =>
  if op = 9 then [⟨9,0,0,0,[(b : Int) + 1,(b : Int) + 1 + cH th + 1]⟩] ++ dZ (b + 1) th ++ [⟨10,0,0,1,[(b : Int) + 2 + cH th + cH el]⟩] ++ dZ (b + 2 + cH th) el
  else if op = 10 then [⟨10,0,0,0,[(b : Int) + 1,(b : Int) + 2 + cH th]⟩] ++ dZ (b + 1) th ++ [⟨10,0,0,1,[(b : Int)]⟩]
  else [⟨op,x,y,n,[(b : Int) + 1]⟩]
def dZ (b : Nat) : List Stmt → List Pnt
 | [] => []
 | s :: l => yB b s ++ dZ (b + qC s) l
end
mutual
theorem Ew:∀ (s:Stmt) (b:Nat),(yB b s).length = qC s
 | .mk op x y n th el, b => by
  have h1 := a9 th (b + 1)
  have h2 := a9 el (b + 2 + cH th)
  simp only [yB,qC]
  split
  ·simp [h1,h2]; omega
  ·split
   ·simp [h1]; omega
   ·simp
theorem a9:∀ (l:List Stmt) (b:Nat),(dZ b l).length = cH l
 | [],b => by simp [dZ,cH]
 | s :: l,b => by simp only [dZ,cH,List.length_append,Ew s b,a9 l (b + qC s)]
end
mutual
theorem Hj:∀ (s:Stmt),qC s ≤ 2 * bJ s
 | .mk op x y n th el => by
  have h1 := gT th
  have h2 := gT el
  simp only [qC,bJ]; split
  ·omega
  ·split <;> omega
theorem gT:∀ (l:List Stmt),cH l ≤ 2 * aK l
 | [] => by simp [cH,aK]
 | s :: l => by have h1 := Hj s;have h2 := gT l;simp only [cH,aK]; omega
end
theorem j7:∀ a b,cH (a ++ b) = cH a + cH b
 | [],b => by simp [cH]
 | s :: a,b => by simp only [List.cons_append,cH,j7 a b]; omega
theorem nF:∀ (a b:List Stmt) (k:Nat),dZ k (a ++ b) = dZ k a ++ dZ (k + cH a) b
 | [],b,k => by simp [dZ,cH]
 | s :: a,b,k => by simp only [List.cons_append,dZ,cH,nF a b,List.append_assoc,Nat.add_assoc]
theorem dN (l:List Stmt) (b k:Nat) (hk:k < l.length):dZ b (l.take (k + 1)) = dZ b (l.take k) ++ yB (b + cH (l.take k)) l[k]!:=by
 rw [bD _ _ hk,nF]; simp [dZ]
theorem dE (l:List Stmt) (k:Nat) (hk:k < l.length):cH (l.take (k + 1)) = cH (l.take k) + qC l[k]!:=by
 rw [bD _ _ hk,j7]; simp [cH]
theorem tG (l:List Stmt) (k:Nat):cH (l.take k) ≤ cH l:=by
 conv => rhs;rw [← List.take_append_drop k l]
 rw [j7]; omega
theorem rX (s:Stmt):qC s = if s.op = 9 then 2 + cH s.th + cH s.el else if s.op = 10 then 2 + cH s.th else 1:=by
 cases s;simp only [qC,Stmt.op,Stmt.th,Stmt.el]; rfl
theorem e7 (b:Nat) (s:Stmt):yB b s = if s.op = 9 then [⟨9,0,0,0,[(b:Int) + 1,(b:Int) + 1 + cH s.th + 1]⟩] ++ dZ (b + 1) s.th ++ [⟨10,0,0,1,[(b:Int) + 2 + cH s.th + cH s.el]⟩] ++ dZ (b + 2 + cH s.th) s.el
  else if s.op = 10 then [⟨10,0,0,0,[(b : Int) + 1,(b : Int) + 2 + cH s.th]⟩] ++ dZ (b + 1) s.th ++ [⟨10,0,0,1,[(b : Int)]⟩]
  else [⟨s.op,s.x,s.y,s.n,[(b : Int) + 1]⟩] := by
 cases s;simp only [yB,Stmt.op,Stmt.th,Stmt.el,Stmt.x,Stmt.y,Stmt.n]; rfl
def aR (p : Prg) : List Pnt := dZ 0 p.body ++ [⟨11,0,0,0,[]⟩]
theorem kG (p:Prg):(aR p).length = cH p.body + 1 := by simp [aR,a9]
theorem gM {α:Type}{f:α → List AV}{e:Nat}[h:FlT f e] {xs:List α}{m:Nat}{new:List AV}{y:α}(hm:m = xs.length) (hn:new = f y):((flat f xs).drop 0).take (m * e) ++ new = flat f (xs ++ [y]):=by
 subst hm hn
 rw [List.drop_zero,List.take_of_length_le (by rw [aI f (e := e)]; exact Nat.le_refl _),← bI,iO]
theorem DC {xs:List Pnt}{m:Nat}{a b c d:Int}(hm:m = xs.length):((flat bM xs).drop 0).take (m * 5) ++ [iv a,iv b,iv c,iv d,.imm 0 []] = flat bM (xs ++ [⟨a,b,c,d,[]⟩]) := gM hm rfl
theorem By {xs:List Pnt}{m:Nat}{a b c d e:Int}(hm:m = xs.length):((flat bM xs).drop 0).take (m * 5) ++ [iv a,iv b,iv c,iv d,.imm 1 [iv e]] = flat bM (xs ++ [⟨a,b,c,d,[e]⟩]) := gM hm rfl
theorem Er {xs:List Int}{m:Nat}{a:Int}(hm:m = xs.length):((flat cI xs).drop 0).take (m * 1) ++ [iv a] = flat cI (xs ++ [a]) := gM hm rfl
theorem FP (A B C new:List AV) (j:Nat) (hj:j + new.length ≤ B.length):fA (A ++ (B ++ C)) (A.length + j) new = A ++ (fA B j new ++ C):=by
 unfold fA
 rw [List.take_length_add_append,Nat.add_assoc,List.drop_length_add_append,List.take_append_of_le_length (by omega),List.drop_append_of_le_length hj]
 simp only [List.append_assoc]
theorem wY {α:Type}[Inhabited α] {f:α → List AV}{e:Nat}[h:FlT f e] {xs:List α}{k:Nat}(hk:k < xs.length):flat f xs = flat f (xs.take k) ++ (f xs[k]! ++ flat f (xs.drop (k + 1))):=by
 rw [← c9 f (e := e) xs k hk,← cT f (e := e),List.take_append_drop]
theorem dA {α:Type}[Inhabited α] {f:α → List AV}{e:Nat}[h:FlT f e] {xs:List α}{k j:Nat}{new:List AV}{y:α}(hk:k < xs.length) (hj:j + new.length ≤ e) (hy:fA (f xs[k]!) j new = f y):fA (flat f xs) (0 + k * e + j) new = flat f (xs.set k y):=by
 have h3 : (flat f (xs.take k)).length = k * e := by rw [aI f (e := e),List.length_take]; congr 1;omega
 rw [wY (e := e) hk,Nat.zero_add,← h3,FP _ _ _ _ _ (by rw [h.pf]; exact hj),hy,List.set_eq_take_append_cons_drop,if_pos hk,← bI]
 simp only [flat,List.flatMap_cons]
theorem gK {α:Type}[Inhabited α] {f:α → List AV}{e:Nat}[h:FlT f e] {xs:List α}{k:Nat}{new:List AV}{y:α}(hk:k < xs.length) (hy:new = f y):fA (flat f xs) (0 + k * e) new = flat f (xs.set k y):=by
 subst hy
 rw [Nat.zero_add]; exact Dp f xs k y hk
theorem CD {xs:List Pnt}{k:Nat}{a:Int}(hk:k < xs.length):fA (flat bM xs) (0 + k * 5 + 4) [.imm 1 [iv a]] = flat bM (xs.set k { xs[k]! with next := [a] }) := dA hk (by simp) rfl
theorem CF {xs:List Pnt}{k:Nat}{a b:Int}(hk:k < xs.length):fA (flat bM xs) (0 + k * 5 + 4) [.imm 2 [iv a,iv b]] = flat bM (xs.set k { xs[k]! with next := [a,b] }) := dA hk (by simp) rfl
theorem rP {xs:List Bool}{k:Nat}{a:Bool}(hk:k < xs.length):fA (flat cB xs) (0 + k * 1) [bv a] = flat cB (xs.set k a) := gK hk rfl
theorem DI (s:Stmt):s.op = 9 → qC s = 2 + cH s.th + cH s.el := by intro h;rw [rX,if_pos h]
theorem xB (s:Stmt):s.op = 10 → qC s = 2 + cH s.th := by intro h;rw [rX,if_neg (by omega),if_pos h]
theorem CQ (s:Stmt):¬ s.op = 9 → ¬ s.op = 10 → qC s = 1 := by intro h h2;rw [rX,if_neg h,if_neg h2]
theorem xS (l:List Stmt) (k:Nat):k < l.length → cH (l.take k) + qC l[k]! ≤ cH l:=by
 intro h;have := tG l (k + 1);rw [dE l k h] at this;exact this
theorem sG {α:Type}(A:List α) (x y:α) (B:List α):(A ++ x :: B).set A.length y = A ++ y :: B:=by
 rw [List.set_append_right _ _ (Nat.le_refl _),Nat.sub_self,List.set_cons_zero]
theorem sI {α:Type}[Inhabited α] (A:List α) (x:α) (B:List α):(A ++ x :: B)[A.length]! = x:=by
 rw [aY _ _ (by simp),List.getElem_append_right (Nat.le_refl _)]; simp
theorem r9 {xs T E:List Pnt}{p q:Pnt}{m:Nat}(hm:m = xs.length):(xs ++ [p] ++ T ++ [q] ++ E)[m]! = p:=by
 subst hm;simp only [List.append_assoc,List.singleton_append,List.cons_append,List.nil_append]; exact sI _ _ _
theorem rK {xs T E:List Pnt}{p q p':Pnt}{m:Nat}(hm:m = xs.length):(xs ++ [p] ++ T ++ [q] ++ E).set m p' = xs ++ [p'] ++ T ++ [q] ++ E:=by
 subst hm;simp only [List.append_assoc,List.singleton_append,List.cons_append,List.nil_append]; exact sG _ _ _ _
theorem qZ {xs T E:List Pnt}{p q:Pnt}{j:Nat}(hj:j = xs.length + 1 + T.length):(xs ++ [p] ++ T ++ [q] ++ E)[j]! = q:=by
 have h : j = (xs ++ [p] ++ T).length := by simp [hj]; omega
 subst h
 rw [show xs ++ [p] ++ T ++ [q] ++ E = (xs ++ [p] ++ T) ++ q :: E by simp]; exact sI _ _ _
theorem rV {xs T E:List Pnt}{p q q':Pnt}{j:Nat}(hj:j = xs.length + 1 + T.length):(xs ++ [p] ++ T ++ [q] ++ E).set j q' = xs ++ [p] ++ T ++ [q'] ++ E:=by
 have h : j = (xs ++ [p] ++ T).length := by simp [hj]; omega
 subst h
 rw [show xs ++ [p] ++ T ++ [q] ++ E = (xs ++ [p] ++ T) ++ q :: E by simp,sG]; simp
theorem xW {xs T:List Pnt}{p q:Pnt}{m:Nat}(hm:m = xs.length):(xs ++ [p] ++ T ++ [q])[m]! = p:=by
 subst hm;simp only [List.append_assoc,List.singleton_append,List.cons_append,List.nil_append]; exact sI _ _ _
theorem xH {xs T:List Pnt}{p q p':Pnt}{m:Nat}(hm:m = xs.length):(xs ++ [p] ++ T ++ [q]).set m p' = xs ++ [p'] ++ T ++ [q]:=by
 subst hm;simp only [List.append_assoc,List.singleton_append,List.cons_append,List.nil_append]; exact sG _ _ _ _
structure WG (ts : List Int) (pts : List Pnt) : Prop where
 tl : ts.length ≤ 6
 ty : ∀ v,v < ts.length → 1 ≤ ts[v]! ∧ ts[v]! ≤ 4
 pl : pts.length ≤ 61
 p0 : 0 < pts.length
 nx : ∀ i,i < pts.length → ∀ k ∈ pts[i]!.next,0 ≤ k ∧ k < pts.length
 nl : ∀ i,i < pts.length → pts[i]!.next.length ≤ 2
 op : ∀ i,i < pts.length → 1 ≤ pts[i]!.op ∧ pts[i]!.op ≤ 11
 x : ∀ i,i < pts.length → 0 ≤ pts[i]!.x ∧ (pts[i]!.op ≤ 8 → pts[i]!.x < ts.length)
 y : ∀ i,i < pts.length → 0 ≤ pts[i]!.y ∧ (3 ≤ pts[i]!.op → pts[i]!.op ≤ 7 → pts[i]!.y < ts.length)
def Hr (nv b e : Nat) (x : Pnt) : Prop := (∀ k ∈ x.next,0 ≤ k ∧ k < (e : Int)) ∧ x.next.length ≤ 2 ∧ 1 ≤ x.op ∧ x.op ≤ 11 ∧ 0 ≤ x.x ∧ (x.op ≤ 8 → x.x < (nv : Int)) ∧ 0 ≤ x.y ∧ (3 ≤ x.op → x.op ≤ 7 → x.y < (nv : Int))
theorem xG {ts:List Int}(ht:a6 ts = true){s:Stmt}(h:cD ts s = true):1 ≤ s.op ∧ s.op ≤ 8 ∧ 0 ≤ s.x ∧ s.x < ts.length ∧ 0 ≤ s.y ∧ (3 ≤ s.op → s.op ≤ 7 → s.y < ts.length):=by
 have hx := hG ht s.x
 have hy := hG ht s.y
 have bx := e9 ht s.x
 have by' := e9 ht s.y
 unfold cD at h
 dsimp only at h
 repeat' split at h
 all_goals first
  | (simp only [decide_eq_true_eq] at h;omega)
  | (cases h;done)
mutual
theorem G7 {ts:List Int}(ht:a6 ts = true):∀ (s:Stmt) (d b e:Nat),oB ts d s = true → b + qC s < e → ∀ x ∈ yB b s,Hr ts.length b e x
 | .mk op x y n th el, d, b, e, h, hb => by
  simp only [oB] at h
  split at h
  ·rename_i hop
   simp only [Bool.and_eq_true] at h
   have hs := xG ht h.2
   simp only [Stmt.op,Stmt.x,Stmt.y] at hs
   simp only [qC,hop.1,hop.2,if_false] at hb
   simp only [yB,hop.1,hop.2,if_false,List.mem_singleton]
   rintro z rfl
   refine ⟨?_,by simp,hs.1,by show op ≤ 11;omega,hs.2.2.1,fun _ => hs.2.2.2.1,hs.2.2.2.2.1,hs.2.2.2.2.2⟩
   simp only [List.mem_singleton]; rintro k rfl;omega
  ·rename_i hop
   cases d with
   | zero => cases h
   | succ d =>
    simp only [Bool.and_eq_true,decide_eq_true_eq] at h
    obtain ⟨⟨⟨_,_⟩,h1⟩,h2⟩ := h
    by_cases h9 : op = 9
    ·subst h9
     simp only [qC,if_true] at hb
     simp only [yB,if_true,List.mem_append,List.mem_singleton]
     rintro z (((rfl|hz)|rfl)|hz)
     ·refine ⟨?_, by simp, by simp, by simp, by simp, by simp, by simp, by simp⟩
      simp only [List.mem_cons,List.not_mem_nil,or_false]; rintro k (rfl|rfl) <;> omega
     ·exact nC ht th d (b + 1) e h1 (by omega) z hz
     ·refine ⟨?_, by simp, by simp, by simp, by simp, by simp, by simp, by simp⟩
      simp only [List.mem_singleton]; rintro k rfl;omega
     ·exact nC ht el d (b + 2 + cH th) e h2 (by omega) z hz
    ·have h10 : op = 10 := by omega
     subst h10
     simp only [qC,if_true,show ((10 : Int) = 9) = False by simp,if_false] at hb
     simp only [yB,if_true,show ((10 : Int) = 9) = False by simp,if_false,List.mem_append,List.mem_singleton]
     rintro z ((rfl|hz)|rfl)
     ·refine ⟨?_, by simp, by simp, by simp, by simp, by simp, by simp, by simp⟩
      simp only [List.mem_cons,List.not_mem_nil,or_false]; rintro k (rfl|rfl) <;> omega
     ·exact nC ht th d (b + 1) e h1 (by omega) z hz
     ·refine ⟨?_, by simp, by simp, by simp, by simp, by simp, by simp, by simp⟩
      simp only [List.mem_singleton]; rintro k rfl;omega
theorem nC {ts:List Int}(ht:a6 ts = true):∀ (l:List Stmt) (d b e:Nat),okL ts d l = true → b + cH l < e → ∀ x ∈ dZ b l,Hr ts.length b e x
 | [],d,b,e,h,hb => by simp [dZ]
 | s :: l, d, b, e, h, hb => by
  simp only [okL,Bool.and_eq_true] at h
  simp only [cH] at hb
  simp only [dZ,List.mem_append]
  rintro x (hx|hx)
  ·exact G7 ht s d b e h.1 (by omega) x hx
  ·exact nC ht l d (b + qC s) e h.2 (by omega) x hx
end
theorem WG.of_valid {p:Prg}(h:bK p = true):WG p.types (aR p):=by
 unfold bK at h
 simp only [Bool.and_eq_true,decide_eq_true_eq] at h
 obtain ⟨⟨ht,hl⟩,hc⟩ := h
 have hn := gT p.body
 have hlen := kG p
 have key : ∀ i, i < (aR p).length → Hr p.types.length 0 (aR p).length (aR p)[i]! := by
  intro i hi
  have hm := aV _ i hi
  unfold aR at hm
  rw [List.mem_append,List.mem_singleton] at hm
  rcases hm with hm|hm
  ·exact nC ht p.body 4 0 _ hl (by omega) _ hm
  ·unfold aR;rw [hm]; exact ⟨by simp,by simp,by simp,by simp,by simp,by simp,by simp,by simp⟩
 exact ⟨eQ ht, iB ht, by omega, by omega, fun i hi => (key i hi).1, fun i hi => (key i hi).2.1, fun i hi => ⟨(key i hi).2.2.1, (key i hi).2.2.2.1⟩,
  fun i hi => ⟨(key i hi).2.2.2.2.1,(key i hi).2.2.2.2.2.1⟩,fun i hi => ⟨(key i hi).2.2.2.2.2.2.1,(key i hi).2.2.2.2.2.2.2⟩⟩
inductive Clo {α : Type} (S : α → Prop) (R : α → α → Prop) : α → Prop
 | base {a : α} (h : S a) : Clo S R a
 | step {a b : α} (h : Clo S R a) (r : R a b) : Clo S R b
theorem Clo.sub {α:Type}{S:α → Prop}{R:α → α → Prop}{T:α → Prop}(h1:∀ a,S a → T a) (h2:∀ a b,T a → R a b → T b):∀ a,Clo S R a → T a:=by
 intro a h
 induction h with
 | base h => exact h1 _ h
 | step _ r ih => exact h2 _ _ ih r
def iG (pts : List Pnt) (i k : Nat) : Prop := i < pts.length ∧ (k : Int) ∈ pts[i]!.next
def dG (f : Nat → Bool) : Nat → Nat
 | 0 => 0
 | n + 1 => dG f n ||| (if f n then 2 ^ n else 0)
theorem dO (f:Nat → Bool):∀ (n i:Nat),(dG f n).testBit i = (decide (i < n) && f i)
 | 0,i => by simp [dG]
 | n + 1, i => by
  rw [dG,Nat.testBit_or,dO f n i]
  by_cases h : i = n
  ·subst h;cases hf : f i <;> simp [Nat.testBit_two_pow_self]
  ·have : ((if f n = true then 2 ^ n else 0).testBit i) = false := by
    split
    ·exact Nat.testBit_two_pow_of_ne (fun e => h e.symm)
    ·simp
   rw [this,Bool.or_false]
   congr 1
   simp only [decide_eq_decide]; omega
theorem pI (f:Nat → Bool) (n:Nat):dG f n < 2 ^ n:=by
 apply Nat.lt_pow_two_of_testBit
 intro i hi
 rw [dO]; simp;omega
theorem cA {f:Nat → Bool}{n:Nat}(h:n ≤ 62):Sm (dG f n) := ⟨Nat.lt_of_lt_of_le (pI f n) (Nat.pow_le_pow_right (by decide) h)⟩
theorem kX {σ ι:Type}(stp:σ × Bool → ι → σ × Bool) (C:ι → σ → Prop) (μ:σ → Nat) (S:σ → Prop) :
  ∀ (L : List ι),(∀ s b i,i ∈ L → S s → S (stp (s,b) i).1 ∧ ((stp (s,b) i = (s,b) ∧ C i s) ∨ ((stp (s,b) i).2 = true ∧ μ (stp (s,b) i).1 < μ s))) →
  ∀ s b,S s → S (L.foldl stp (s,b)).1 ∧ ((L.foldl stp (s,b) = (s,b) ∧ ∀ i ∈ L,C i s) ∨ ((L.foldl stp (s,b)).2 = true ∧ μ (L.foldl stp (s,b)).1 < μ s))
 | [],_,s,b,hs => ⟨hs,.inl ⟨rfl,by simp⟩⟩
 | i :: L, h, s, b, hs => by
  have h1 := h s b i (List.mem_cons_self) hs
  simp only [List.foldl_cons]
  generalize stp (s,b) i = r at h1
  obtain ⟨s',b'⟩ := r
  have h2 := kX stp C μ S L (fun s b j hj => h s b j (List.mem_cons_of_mem _ hj)) s' b' h1.1
  refine ⟨h2.1,?_⟩
  rcases h1.2 with ⟨e1,c1⟩ | ⟨e1,c1⟩
  ·cases e1
   rcases h2.2 with ⟨e2,c2⟩ | ⟨e2,c2⟩
   ·exact .inl ⟨e2,fun j hj => by rcases List.mem_cons.1 hj with rfl|hj;exact c1;exact c2 j hj⟩
   ·exact .inr ⟨e2,c2⟩
  ·rcases h2.2 with ⟨e2, c2⟩ | ⟨e2, c2⟩
   ·rw [e2]; exact .inr ⟨e1,c1⟩
   ·exact .inr ⟨e2,by dsimp only at c1;omega⟩
theorem nY {σ ι:Type}[Inhabited ι] (f:σ → ι → σ) (L:List ι) (s:σ) (k:Nat) (h:k < L.length):(L.take (k + 1)).foldl f s = f ((L.take k).foldl f s) L[k]!:=by
 rw [bD _ _ h,List.foldl_append]; rfl
def jS (l : List Nat) : Nat := l.foldr (· + ·) 0
theorem uS (g:Nat → Nat):∀ (l:List Nat) (k:Nat) (x:Nat),k < l.length → jS ((l.set k x).map g) + g l[k]! = jS (l.map g) + g x
 | a :: l,0,x,_ => by simp [jS]; omega
 | a :: l, k + 1, x, h => by
  have := uS g l k x (by simpa using h)
  have e : (a :: l)[k + 1]! = l[k]! := by rw [aY _ _ h,aY _ _ (by simpa using h)]; rfl
  rw [e]
  simp only [List.set_cons_succ,List.map_cons,jS,List.foldr_cons] at this ⊢
  omega
abbrev aG (ts : List Int) (bd : List Stmt) (pts : List Pnt) : AV := .iptr [sl cI ts,sl aH bd,sl bM pts]
def D2 (t : Int) : Bool := decide (t = 2) || decide (t = 4)
def wS (ts : List Int) (x : Pnt) (us : List Int) : Nat := dG (fun v => decide (bB ts x v ∈ us)) ts.length
theorem Dt (ts:List Int) (x:Pnt) (v:Int):0 ≤ bB ts x v ∧ bB ts x v ≤ 3:=by
 unfold bB;grind
theorem WG.set {ts:List Int}{pts:List Pnt}(h:WG ts pts) (i:Nat) (hi:i < pts.length):bC pts[i]! < ts.length ∧ (0 ≤ bC pts[i]! ∨ bC pts[i]! = -1):=by
 have := h.x i hi
 have := h.tl
 unfold bC;split <;> omega
theorem uI (f:Nat → Bool) (k:Nat) (h:f k = true):dG f k ||| 2 ^ k = dG f (k + 1) := by rw [dG,if_pos h]
theorem tP (f:Nat → Bool) (k:Nat) (h:f k = false):dG f k = dG f (k + 1) := by rw [dG,if_neg (by simp [h]),Nat.or_zero]
theorem gL {i:Nat}{hs:List (Nat × Option (List AV))}{id:Nat}{cs:List AV}(h:aN ((i,none) :: hs) id = some cs):aN hs id = some cs ∧ id ≠ i:=by
 rw [bN] at h
 split at h
 ·cases h
 ·rename_i e;exact ⟨h,e⟩
theorem Le.frzD {ts:List (Nat × AV)}{hs:List (Nat × Option (List AV))}{n:Nat}{z0:Lo}{d i m e:Nat}{cs:List AV}(hd:lk ts d = some (.own i 0 m e)) (hi:aN hs i = some cs) :
  Le ⟨ts,hs,n,z0⟩ ⟨(d,.imm m cs) :: ts,(i,none) :: hs,n,z0⟩ := by
 rintro C a w ⟨h0,ι,g,gh⟩
 obtain ⟨gh',car⟩ := gh.less (F' := Fn n z0) (H' := aN ((i,none) :: hs)) (fun id c h => (gL h).1) (fun _ h => h)
 refine ⟨h0,ι,⟨g.df,g.sz,fun t av ht => ?_⟩,gh'⟩
 rw [show lk (⟨(d,.imm m cs) :: ts,(i,none) :: hs,n,z0⟩ : AS).ts t = lk ((d,.imm m cs) :: ts) t from rfl,iE] at ht
 split at ht
 ·rename_i et
  subst et
  cases ht
  obtain ⟨y,hy,hr⟩ := g.tm t _ hd
  refine ⟨y,hy,?_⟩
  simp only [Rd] at hr ⊢
  rcases hr with ⟨_,h2,a',h3⟩ | ⟨b,β,c,h1,h2,h3,h4⟩
  ·subst h2;exact ⟨a',0,h3,.inl rfl⟩
  ·refine ⟨_, c, h2, ?_⟩
   rcases Nat.eq_zero_or_pos m with h5|h5
   ·exact .inl h5
   ·refine .inr ⟨b, β + 0, h3, rfl, ?_⟩
    rcases gh.obj i cs hi with ⟨q1,q2⟩ | ⟨b',β',arr,e',q1,q2,q3,q4,q5,q6⟩
    ·rw [h1] at q1;cases q1
    ·rw [h1] at q1; cases q1
     refine .inr ⟨?_,RdC.carryB car _ _ _ (fun o x hx => hx) q4⟩
     rintro (h | ⟨id',cs',β',r1,r2⟩)
     ·exact q5 h
     ·exact (gL r1).2 (gh.sep _ _ _ _ _ _ _ (gL r1).1 hi r2 h1)
 ·obtain ⟨y, hy, hr⟩ := g.tm t av ht
  exact ⟨y,hy,Rd.carry car _ _ hr⟩
theorem Le.frzP {ts:List (Nat × AV)}{hs:List (Nat × Option (List AV))}{n:Nat}{z0:Lo}{d i:Nat}{cs:List AV}(hd:lk ts d = some (.optr i 0)) (hi:aN hs i = some cs) :
  Le ⟨ts,hs,n,z0⟩ ⟨(d,.iptr cs) :: ts,(i,none) :: hs,n,z0⟩ := by
 rintro C a w ⟨h0,ι,g,gh⟩
 obtain ⟨gh',car⟩ := gh.less (F' := Fn n z0) (H' := aN ((i,none) :: hs)) (fun id c h => (gL h).1) (fun _ h => h)
 refine ⟨h0,ι,⟨g.df,g.sz,fun t av ht => ?_⟩,gh'⟩
 rw [show lk (⟨(d,.iptr cs) :: ts,(i,none) :: hs,n,z0⟩ : AS).ts t = lk ((d,.iptr cs) :: ts) t from rfl,iE] at ht
 split at ht
 ·rename_i et
  subst et
  cases ht
  obtain ⟨y,hy,hr⟩ := g.tm t _ hd
  refine ⟨y,hy,?_⟩
  simp only [Rd] at hr ⊢
  obtain ⟨b,β,h1,h2⟩ := hr
  refine ⟨b,β + 0,h2,?_⟩
  rcases gh.obj i cs hi with ⟨q1,q2⟩ | ⟨b',β',arr,e',q1,q2,q3,q4,q5,q6⟩
  ·rw [h1] at q1;cases q1
  ·rw [h1] at q1; cases q1
   refine .inr ⟨?_,RdC.carryB car _ _ _ (fun o x hx => hx) q4⟩
   rintro (h | ⟨id',cs',β',r1,r2⟩)
   ·exact q5 h
   ·exact (gL r1).2 (gh.sep _ _ _ _ _ _ _ (gL r1).1 hi r2 h1)
 ·obtain ⟨y, hy, hr⟩ := g.tm t av ht
  exact ⟨y,hy,Rd.carry car _ _ hr⟩
theorem Le.nilOwn {ts:List (Nat × AV)}{hs:List (Nat × Option (List AV))}{n:Nat}{z0:Lo}{d:Nat}(e:Nat) (hd:lk ts d = some (.v (.slice none 0 0))) (hn:n < aU) :
  Le ⟨ts,hs,n,z0⟩ ⟨(d,.own n 0 0 e) :: ts,(n,some []) :: hs,n + 1,z0⟩ := by
 rintro C a w ⟨h0,ι,g,gh⟩
 have hf : ι n = none := gh.fresh n ⟨Nat.le_refl _,.inl hn⟩
 let ι' : Pl := cP ι n (some none)
 have hne : ∀ id p, ι id = some p → ι' id = some p := by
  intro id p h
  have : id ≠ n := by rintro rfl;rw [hf] at h;cases h
  simp only [ι',aX _ _ this,h]
 have hback : ∀ id b β, ι' id = some (some (b, β)) → id ≠ n ∧ ι id = some (some (b, β)) := by
  intro id b β h
  by_cases q : id = n
  ·subst q;simp only [ι',upd_same] at h;cases h
  ·simp only [ι',aX _ _ q] at h;exact ⟨q,h⟩
 have hH : ∀ id cs, id ≠ n → aN ((n, some []) :: hs) id = some cs → aN hs id = some cs := by
  intro id cs q h;rw [bN,if_neg q] at h;exact h
 have car : Carry w (aF C.X ι (aN hs)) ι w (aF C.X ι' (aN ((n, some []) :: hs))) ι' := by
  refine ⟨fun b o x h1 h2 => ⟨?_,h2⟩,hne,fun _ => Nat.le_refl _⟩
  rintro (h | ⟨id,cs,β,q1,q2⟩)
  ·exact h1 (.inl h)
  ·obtain ⟨r1, r2⟩ := hback _ _ _ q2
   exact h1 (.inr ⟨id,cs,β,hH _ _ r1 q1,r2⟩)
 refine ⟨h0,ι',⟨g.df,g.sz,fun t av ht => ?_⟩,⟨fun id cs h => ?_,fun id id' cs cs' b β β' q1 q2 q3 q4 => ?_,gh.fr,fun id p h => hne _ _ (gh.ex _ _ h),fun id h => ?_⟩⟩
 ·rw [show lk (⟨(d, .own n 0 0 e) :: ts, (n, some []) :: hs, n + 1, z0⟩ : AS).ts t = lk ((d, .own n 0 0 e) :: ts) t from rfl, iE] at ht
  split at ht
  ·rename_i et
   subst et
   cases ht
   obtain ⟨y,hy,hr⟩ := g.tm t _ hd
   refine ⟨y,hy,?_⟩
   simp only [Rd] at hr ⊢
   exact .inl ⟨⟨none,by simp only [ι',upd_same]⟩,trivial,none,hr⟩
  ·obtain ⟨y, hy, hr⟩ := g.tm t av ht
   exact ⟨y,hy,Rd.carry car _ _ hr⟩
 ·by_cases q : id = n
  ·subst q
   simp only [bN,if_true,Option.some.injEq] at h
   exact .inl ⟨by simp only [ι',upd_same],h.symm⟩
  ·rcases gh.obj id cs (hH _ _ q h) with ⟨r1, r2⟩ | ⟨b, β, arr, e', r1, r2, r3, r4, r5, r6⟩
   ·exact .inl ⟨hne _ _ r1,r2⟩
   ·exact .inr ⟨b,β,arr,e',hne _ _ r1,r2,r3,RdC.carryB car _ _ _ (fun o x hx => hx) r4,r5,r6⟩
 ·obtain ⟨r1, r2⟩ := hback _ _ _ q3
  obtain ⟨r3,r4⟩ := hback _ _ _ q4
  exact gh.sep _ _ _ _ _ _ _ (hH _ _ r1 q1) (hH _ _ r3 q2) r2 r4
 ·have h1 : n + 1 ≤ id := h.1
  have h2 : id < aU ∨ z0.fb ≤ id := h.2
  have q : id ≠ n := by omega
  simp only [ι',aX _ _ q]
  exact gh.fresh id ⟨by show n ≤ id;omega,h2⟩
section
variable {P : Program} {N : Nat} {Q : Exit → AS → Prop} {all : Array Oper} {rest : List Oper} {ts : List (Nat × AV)} {hs : List (Nat × Option (List AV))} {n : Nat} {z0 : Lo} {md : Md}
variable {d : Nat} {ty : TypeId} {pos : String} {af : Array Edge}
theorem fV {l:List Oper}{s s':AS}(h:RW P N all Q .txt l s') (k:Le s s'):RW P N all Q .txt l s := fun C a w hN g => h C a w hN (k C a w g)
theorem Le.trans {s s' s'':AS}(h:Le s s') (k:Le s' s''):Le s s'' := fun C a w g => k C a w (h C a w g)
theorem Le.frzTop {ts:List (Nat × AV)}{hs:List (Nat × Option (List AV))}{n:Nat}{z0:Lo}{d i m e:Nat}{cs:List AV} :
  Le ⟨(d,.own i 0 m e) :: ts,(i,some cs) :: hs,n,z0⟩ ⟨(d,.imm m cs) :: ts,(i,none) :: hs,n,z0⟩ := by
 refine (Le.frzD (d := d) (i := i) (m := m) (e := e) (cs := cs) (by simp [iE]) (by simp [bN])).trans ?_
 refine Le.of (fun t av h => ?_) (fun j c h => ?_) (Nat.le_refl _) rfl
 ·show lk ((d, .imm m cs) :: (d, .own i 0 m e) :: ts) t = _
  have h' : lk ((d,.imm m cs) :: ts) t = some av := h
  simp only [iE] at h' ⊢
  split
  ·rename_i q;rw [if_pos q] at h'; exact h'
  ·rename_i q;rw [if_neg q] at h'; exact h'
 ·show aN ((i, none) :: (i, some cs) :: hs) j = _
  have h' : aN ((i,none) :: hs) j = some c := h
  simp only [bN] at h' ⊢
  split
  ·rename_i q;rw [if_pos q] at h'; exact h'
  ·rename_i q;rw [if_neg q] at h'; exact h'
theorem aJ {t el len e:Nat}{parts:Array (Nat × Operand)}{zs:List Value}{l:List (Nat × AV)}{cs:List AV}[ht:SlT P t el] [he:SzT P el e] [hz:ZrT P el zs] (hze:zs.length = e) (hsm:Nat.ble (len * e) 16777216 = true)
  (hl : evs (lk ts) parts.toList = some l) (hfl : fE (fun i => some (i * e,e)) ((List.replicate len (zs.map .v)).flatten) l = some cs) (hM : Nat.blt n aU = true) (hN : Nat.blt d N = true) (kk : RW P N all Q .txt rest ⟨(d,.imm len cs) :: ts,(n,none) :: hs,n + 1,z0⟩) :
  RW P N all Q .txt (⟨some d,.buildSlice t len parts,ty,pos,af,none⟩ :: rest) ⟨ts,hs,n,z0⟩ :=
 jU hze hsm hl hfl hM hN (md' := .txt) (fV kk Le.frzTop)
end
theorem Le.mv {ts:List (Nat × AV)}{hs:List (Nat × Option (List AV))}{n:Nat}{z0:Lo}{d i o m e:Nat}{cs:List AV}(hd:lk ts d = some (.own i o m e)) (hi:aN hs i = some cs) (hn:n < aU) :
  Le ⟨ts,hs,n,z0⟩ ⟨(d,.own n o m e) :: ts,(n,some cs) :: (i,none) :: hs,n + 1,z0⟩ := by
 rintro C a w ⟨h0,ι,g,gh⟩
 have hf : ι n = none := gh.fresh n ⟨Nat.le_refl _,.inl hn⟩
 have hin : ∃ p, ι i = some p := by
  rcases gh.obj i cs hi with ⟨r1,_⟩ | ⟨b,β,_,_,r1,_⟩
  ·exact ⟨_,r1⟩
  ·exact ⟨_,r1⟩
 obtain ⟨pi,hpi⟩ := hin
 have hni : n ≠ i := by rintro rfl;rw [hf] at hpi;cases hpi
 let ι' : Pl := cP ι n (ι i)
 have hnn : ι' n = ι i := by simp only [ι',upd_same]
 have hne' : ∀ id,id ≠ n → ι' id = ι id := fun id h => by simp only [ι',aX _ _ h]
 have hne : ∀ id p, ι id = some p → ι' id = some p := by
  intro id p h
  have : id ≠ n := by rintro rfl;rw [hf] at h;cases h
  rw [hne' _ this,h]
 -- the objects of the new state, under their old ids
 let σ : Nat → Nat := fun id => if id = n then i else id
 have hσ : ∀ id c, aN ((n, some cs) :: (i, none) :: hs) id = some c → aN hs (σ id) = some c ∧ ι' id = ι (σ id) ∧ (id = n ∨ id ≠ i) := by
  intro id c h
  simp only [bN] at h
  by_cases q : id = n
  ·subst q
   rw [if_pos rfl] at h;cases h
   exact ⟨by simp only [σ,if_true]; exact hi,by simp only [σ,if_true]; exact hnn,.inl rfl⟩
  ·rw [if_neg q] at h
   by_cases q2 : id = i
   ·rw [if_pos q2] at h;cases h
   ·rw [if_neg q2] at h
    exact ⟨by simp only [σ,if_neg q]; exact h,by simp only [σ,if_neg q]; exact hne' _ q,.inr q2⟩
 have car : Carry w (aF C.X ι (aN hs)) ι w (aF C.X ι' (aN ((n, some cs) :: (i, none) :: hs))) ι' := by
  refine ⟨fun b o x h1 h2 => ⟨?_,h2⟩,hne,fun _ => Nat.le_refl _⟩
  rintro (h | ⟨id,c,β,q1,q2⟩)
  ·exact h1 (.inl h)
  ·obtain ⟨r1, r2, _⟩ := hσ id c q1
   exact h1 (.inr ⟨σ id,c,β,r1,by rw [← r2]; exact q2⟩)
 refine ⟨h0,ι',⟨g.df,g.sz,fun t av ht => ?_⟩,⟨fun id c h => ?_,fun id id' c c' b β β' q1 q2 q3 q4 => ?_,gh.fr,fun id p h => hne _ _ (gh.ex _ _ h),fun id h => ?_⟩⟩
 ·have ht' : lk ((d, .own n o m e) :: ts) t = some av := ht
  rw [iE] at ht'
  split at ht'
  ·rename_i et
   subst et
   cases ht'
   obtain ⟨y,hy,hr⟩ := g.tm t _ hd
   refine ⟨y,hy,?_⟩
   have hr' := Rd.carry car _ _ hr
   simp only [Rd,hnn] at hr' ⊢
   rw [hne' i (fun h => hni h.symm)] at hr'
   exact hr'
  ·obtain ⟨y, hy, hr⟩ := g.tm t av ht'
   exact ⟨y,hy,Rd.carry car _ _ hr⟩
 ·obtain ⟨r1, r2, _⟩ := hσ id c h
  rcases gh.obj _ c r1 with ⟨s1,s2⟩ | ⟨b,β,arr,e',s1,s2,s3,s4,s5,s6⟩
  ·exact .inl ⟨by rw [r2]; exact s1,s2⟩
  ·exact .inr ⟨b,β,arr,e',by rw [r2]; exact s1,s2,s3,RdC.carryB car _ _ _ (fun o x hx => hx) s4,s5,s6⟩
 ·obtain ⟨r1, r2, r3⟩ := hσ id c q1
  obtain ⟨t1,t2,t3⟩ := hσ id' c' q2
  have := gh.sep _ _ _ _ _ _ _ r1 t1 (by rw [← r2]; exact q3) (by rw [← t2]; exact q4)
  simp only [σ] at this
  split at this <;> split at this
  ·omega
  ·rename_i u1 u2; rcases t3 with t3 | t3
   ·exact absurd t3 u2
   ·exact absurd this.symm t3
  ·rename_i u1 u2; rcases r3 with r3 | r3
   ·exact absurd r3 u1
   ·exact absurd this r3
  ·exact this
 ·have h1 : n + 1 ≤ id := h.1
  have h2 : id < aU ∨ z0.fb ≤ id := h.2
  rw [hne' id (by omega)]
  exact gh.fresh id ⟨by show n ≤ id;omega,h2⟩
theorem Le.slot {ts:List (Nat × AV)}{hs:List (Nat × Option (List AV))}{n:Nat}{z0:Lo}{d:Nat}{v v':AV}(hd:lk ts d = some v) (h:∀ (w:World) (bad:Nat → Prop) (ι:Pl) (y:Value),Rd w bad ι v y → Rd w bad ι v' y) :
  Le ⟨ts,hs,n,z0⟩ ⟨(d,v') :: ts,hs,n,z0⟩ := by
 rintro C a w ⟨h0,ι,g,gh⟩
 refine ⟨h0,ι,⟨g.df,g.sz,fun t av ht => ?_⟩,gh⟩
 have ht' : lk ((d,v') :: ts) t = some av := ht
 rw [iE] at ht'
 split at ht'
 ·rename_i et
  subst et
  cases ht'
  obtain ⟨y,hy,hr⟩ := g.tm t _ hd
  exact ⟨y,hy,h _ _ _ _ hr⟩
 ·exact g.tm t av ht'
theorem Le.nilImm {ts:List (Nat × AV)}{hs:List (Nat × Option (List AV))}{n:Nat}{z0:Lo}{d:Nat}(hd:lk ts d = some (.v (.slice none 0 0))):Le ⟨ts,hs,n,z0⟩ ⟨(d,.imm 0 []) :: ts,hs,n,z0⟩ :=
 Le.slot hd fun w bad ι y h => j3 (av := .v (.slice none 0 0)) h
theorem A5 {α:Type}{f:α → List AV}{hs:List (Nat × Option (List AV))}{i:Nat}(h:aN hs i = some []):aN hs i = some (flat f []) := h
abbrev xI (a s : Nat) : Nat := a ||| s
def Az (op : Nat → Nat → Nat) (s0 : Nat) (s : List Nat × Bool) (k : Nat) : List Nat × Bool :=
 if op s.1[k]! s0 ≠ s.1[k]! then (s.1.set k (op s.1[k]! s0),true) else s
def De (pts : List Pnt) (i : Nat) : List Nat := pts[i]!.next.map (·.toNat)
theorem m9 {α:Type}[Inhabited α] (l:List α) (k i:Nat) (x:α) (h:k < l.length):(l.set k x)[i]! = if i = k then x else l[i]!:=by
 by_cases e : i = k
 ·subst e;rw [if_pos rfl,aY _ _ (by simpa using h),List.getElem_set_self]
 ·rw [if_neg e]
  simp only [List.getElem!_eq_getElem?_getD,List.getElem?_set_ne (Ne.symm e)]
theorem zC {ts:List Int}{pts:List Pnt}(w:WG ts pts){i k:Nat}(hi:i < pts.length):k ∈ De pts i ↔ iG pts i k:=by
 unfold De iG
 rw [List.mem_map]
 constructor
 ·rintro ⟨z, hz, rfl⟩
  have := w.nx i hi z hz
  exact ⟨hi,by rw [Int.toNat_of_nonneg this.1]; exact hz⟩
 ·rintro ⟨_,h⟩; exact ⟨_,h,rfl⟩
theorem mI {ts:List Int}{pts:List Pnt}(w:WG ts pts){i k:Nat}(h:iG pts i k):k < pts.length:=by
 have := w.nx i h.1 _ h.2;omega
theorem tT {a b:Nat}(h:a ||| b ≠ a):a < a ||| b:=by
 have := @Nat.left_le_or a b;omega
theorem lF {a b:Nat}:a ||| b = a ↔ ∀ v,b.testBit v = true → a.testBit v = true:=by
 constructor
 ·intro h v hv;rw [← h,Nat.testBit_or,hv]; simp
 ·intro h
  apply Nat.eq_of_testBit_eq;intro v
  rw [Nat.testBit_or]
  cases hb : b.testBit v with
  | false => simp
  | true => rw [h v hb]; rfl
theorem jW {a n:Nat}(h:a < 2 ^ n){v:Nat}(hv:a.testBit v = true):v < n:=by
 rcases Nat.lt_or_ge v n with h1|h1
 ·exact h1
 ·rw [Nat.testBit_lt_two_pow (Nat.lt_of_lt_of_le h (Nat.pow_le_pow_right (by decide) h1))] at hv;cases hv
theorem tA {ts:List Int}{pts:List Pnt}(w:WG ts pts){i:Nat}(hi:i < pts.length){v:Nat}(h:bB ts pts[i]! v ≠ 0):v < ts.length:=by
 have h1 := w.x i hi
 have h2 := w.y i hi
 unfold bB at h
 grind
theorem fG {ts:List Int}{x:Pnt}{us:List Int}{v:Nat}:(wS ts x us).testBit v = (decide (v < ts.length) && decide (bB ts x v ∈ us)) := dO _ _ _
theorem BT {n:Nat}{A B:List Nat}(h1:A.length = n) (h2:B.length = n) (h:∀ i,i < n → ∀ v,A[i]!.testBit v = true ↔ B[i]!.testBit v = true):A = B:=by
 apply List.ext_getElem (by omega)
 intro i g1 g2
 have := h i (by omega)
 rw [aY _ _ g1,aY _ _ g2] at this
 apply Nat.eq_of_testBit_eq
 intro v
 rw [Bool.eq_iff_iff]; exact this v
theorem EA {pts:List Pnt}{i j:Nat}(h:j < pts[i]!.next.length):(De pts i)[j]! = (pts[i]!.next[j]!).toNat:=by
 unfold De
 rw [aY _ _ (by simpa using h),aY _ _ h,List.getElem_map]
theorem gS {σ:Type}(f:σ → Nat → σ) (s:σ) (k:Nat):(List.range (k + 1)).foldl f s = f ((List.range k).foldl f s) k:=by
 rw [List.range_succ,List.foldl_append]; rfl
theorem yS (pts:List Pnt) (i:Nat):(De pts i).length = pts[i]!.next.length := by unfold De;simp
theorem Hd {op:Nat → Nat → Nat}{s0:Nat}{s:List Nat}{b:Bool}{k:Nat}(h:op s[k]! s0 ≠ s[k]!):Az op s0 (s,b) k = (s.set k (op s[k]! s0),true) := by unfold Az;rw [if_pos h]
theorem Hv {op:Nat → Nat → Nat}{s0:Nat}{s:List Nat}{b:Bool}{k:Nat}(h:op s[k]! s0 = s[k]!):Az op s0 (s,b) k = (s,b) := by unfold Az;rw [if_neg (fun hc => hc h)]
theorem j8 {l:List Nat}{k x:Nat}(h:l[k]! = x) (hk:k < l.length):l.set k x = l:=by
 subst h;rw [aY _ _ hk]; exact List.set_getElem_self hk
end Go.AL
namespace Go.AL
instance (a b : List AV) [h : Pur a] [h2 : Pur b] : Pur (a ++ b):=⟨by rw [e8,h.pf,h2.pf]; rfl⟩
instance (fn : Go.Fn) (f c : List AV) [h : Pur f] [h2 : Pur c] : PurV (.clos fn f c):=⟨by simp only [AV.pur,h.pf,h2.pf,Bool.and_self]⟩
def cW (n : Nat) : List AV := [.v (.int .u64 (n : Int))]
instance : FlT cW 1:=⟨fun _ => rfl⟩
instance : FE cW (fun n => [.v (.int .u64 (n : Int))]):=⟨fun _ => rfl⟩
instance (n : Nat) : Pur (cW n):=⟨rfl⟩
theorem yA {xs:List Nat}{k:Nat}{a:Nat}(hk:k < xs.length):fA (flat cW xs) (0 + k * 1) [.v (.int .u64 (a:Int))] = flat cW (xs.set k a) := gK hk rfl
theorem DS {α:Type}{f:α → List AV}{x:α}{l:List AV}{m:Nat}(h:l = f x):(List.replicate m l).flatten = flat f (List.replicate m x):=by
 subst h;simp [flat,List.flatMap_def]
theorem E1 {m:Nat}:(List.replicate m ([Value.bool false].map AV.v)).flatten = flat cB (List.replicate m false) := DS rfl
section
variable {P : Program} {N : Nat} {Q : Exit → AS → Prop} {all : Array Oper} {rest : List Oper} {ts : List (Nat × AV)} {hs : List (Nat × Option (List AV))} {n : Nat} {z0 : Lo} {md : Md}
variable {d : Nat} {ty : TypeId} {pos : String} {af : Array Edge}
theorem o7 {t el e by' m:Nat}{x y:Operand}{zs:List Value}{cs:List AV}{k k':IntKind}[ht:SlT P t el] [he:SzT P el e] [hb:ByT P el by'] [hz:ZrT P el zs]
  (hx : ev (lk ts) x = some (.v (.int k (m : Int)))) (hy : ev (lk ts) y = some (.v (.int k' (m : Int)))) (hze : zs.length = e) (hsm : by' * m ≤ 281474976710656) (hmx : m ≤ 9223372036854775807)
  (hcs : (List.replicate m (zs.map .v)).flatten = cs) (hM : Nat.blt n aU = true) (hN : Nat.blt d N = true) {md' : Md} [hmd : MdA md (rO x ++ rO y) [.inr n,.inl d] md'] (kk : RW P N all Q md' rest ⟨(d,.own n 0 m e) :: ts,(n,some cs) :: hs,n + 1,z0⟩) :
  RW P N all Q md (⟨some d,.makeSlice t x y,ty,pos,af,none⟩ :: rest) ⟨ts,hs,n,z0⟩ := by
 subst hcs
 exact sF hx hy hze hsm hmx hM hN (md' := md') (hmd := hmd) kk
end
theorem lH {H:Nat → Option (List AV)}:fT H [] = some [] := rfl
theorem jV {H:Nat → Option (List AV)}{c x:AV}{cs l:List AV}(h1:gR H c = some x) (h2:fT H cs = some l):fT H (c :: cs) = some (x :: l):=by
 simp only [fT,h1,h2]
theorem lD {H:Nat → Option (List AV)}{i m e:Nat}{cs:List AV}(h:H i = some cs) (hp:Pur cs):gR H (.own i 0 m e) = some (.imm m cs):=by
 simp only [gR,h,Option.bind_some,hp.pf,if_true,List.drop_zero]
theorem zR {H:Nat → Option (List AV)}{x:Value}:gR H (.v x) = some (.v x) := rfl
section
variable {P : Program} {N : Nat} {Q : Exit → AS → Prop} {all : Array Oper} {rest : List Oper} {ts : List (Nat × AV)} {hs : List (Nat × Option (List AV))} {n : Nat} {z0 : Lo} {md : Md}
variable {d : Nat} {ty : TypeId} {pos : String} {af : Array Edge}
theorem n8 {k:FuncId}{args:Array Operand}{tys:Array TypeId}{avs avs2:List AV}{r:AV}{md':Md}[hc:CaT P k] (ha:evL (lk ts) args.toList = some avs) (hl:fT (aN hs) avs = some avs2) (h:PC P k avs2 (fun x => x = r)) (hfr:r.free = true) (hN:Nat.blt d N = true)
  (hmd : MdA md (dV args.toList ++ rL avs) [.inl d] md') (kk : RW P N all Q md' rest ⟨(d,r) :: ts,hs,n,z0⟩) : RW P N all Q md (⟨some d,.call ⟨.value (.func k),args,tys⟩,ty,pos,af,none⟩ :: rest) ⟨ts,hs,n,z0⟩ := by
 exact EP ha hl h hfr hN (hmd := hmd) kk
end
theorem Bg {k:IntKind}[hk:K6 k] (a:Nat) [ha:Sm a]:eD .and k a 1 = some (.int k ((a &&& 1:Nat):Int)) := DD a 1
section
variable {P : Program} {N : Nat} {Q : Exit → AS → Prop} {all : Array Oper} {rest : List Oper} {ts : List (Nat × AV)} {hs : List (Nat × Option (List AV))} {n : Nat} {z0 : Lo} {md : Md}
variable {d : Nat} {ty : TypeId} {pos : String} {af : Array Edge}
theorem Es {k:IntKind}{t t':TypeId}{x y:Operand}{a:Nat}(hx:ev (lk ts) x = some (.v (.int k (a:Int)))) (hy:ev (lk ts) y = some (.v (.int k 1))) (hk:K6 k) (ha:Sm a)
  (hN : Nat.blt d N = true) {md' : Md} [hmd : MdA md (rO x ++ rO y) [.inl d] md'] (kk : RW P N all Q md' rest ⟨(d,.v (.int k ((a &&& 1 : Nat) : Int))) :: ts,hs,n,z0⟩) : RW P N all Q md (⟨some d,.binOp .and t x y t',ty,pos,af,none⟩ :: rest) ⟨ts,hs,n,z0⟩ :=
 cZ hx hy (.inl rfl) (Bg a) (b0 hN) (by rw [hmd.pf]; exact kk)
end
theorem vD (A v:Nat):((A >>> v &&& 1:Nat):Int) = 1 ↔ A.testBit v = true:=by
 rw [Nat.testBit,Nat.and_comm]
 have : 1 &&& (A >>> v) = (A >>> v) % 2 := by rw [Nat.and_comm,Nat.and_one_is_mod]
 rw [this]
 have := Nat.mod_two_eq_zero_or_one (A >>> v)
 simp only [bne_iff_ne,ne_eq]
 omega
def bF (A : Nat) : List Int := ((List.range 62).filter (A.testBit ·)).map (fun v : Nat => (v : Int))
theorem lC {A k:Nat}(h:∀ v,k ≤ v → A.testBit v = false) (hk:k ≤ 64) (hA:Sm A):bF A = ((List.range k).filter (A.testBit ·)).map (fun v:Nat => (v:Int)):=by
 unfold bF
 congr 1
 have e : ∀ (a b : Nat), (∀ v, a ≤ v → v < a + b → A.testBit v = false) → (List.range (a + b)).filter (A.testBit ·) = (List.range a).filter (A.testBit ·) := by
  intro a b hb
  rw [List.range_add,List.filter_append]
  have : List.filter (A.testBit ·) (List.map (fun x => a + x) (List.range b)) = [] := by
   rw [List.filter_eq_nil_iff]
   intro x hx
   rw [List.mem_map] at hx
   obtain ⟨y,hy,rfl⟩ := hx
   rw [List.mem_range] at hy
   rw [hb _ (by omega) (by omega)]; simp
  rw [this,List.append_nil]
 rcases Nat.le_total k 62 with h1|h1
 ·have := e k (62 - k) (fun v h2 _ => h v h2)
  rwa [show k + (62 - k) = 62 by omega] at this
 ·have := e 62 (k - 62) (fun v h2 _ => Nat.testBit_lt_two_pow (Nat.lt_of_lt_of_le hA.pf (Nat.pow_le_pow_right (by decide) h2)))
  rw [show 62 + (k - 62) = k by omega] at this
  exact this.symm
theorem jP (p:Nat → Bool) (k:Nat):(List.range (k + 1)).filter p = (List.range k).filter p ++ (if p k = true then [k] else []):=by
 rw [List.range_succ,List.filter_append]
 congr 1
 by_cases h : p k = true <;> simp [h]
theorem eB {A:Nat}{z:Int}:z ∈ bF A ↔ ∃ v:Nat,v < 62 ∧ A.testBit v = true ∧ z = v:=by
 unfold bF
 simp only [List.mem_map,List.mem_filter,List.mem_range]
 constructor
 ·rintro ⟨v,⟨h1,h2⟩,rfl⟩; exact ⟨v,h1,h2,rfl⟩
 ·rintro ⟨v,h1,h2,rfl⟩; exact ⟨v,⟨h1,h2⟩,rfl⟩
theorem x4 {A k:Nat}(hA:Sm A) (h:0 < ((A >>> k:Nat):Int)):k < 62:=by
 rcases Nat.lt_or_ge k 62 with h1|h1
 ·exact h1
 ·have : A >>> k = 0 := by rw [Nat.shiftRight_eq_div_pow]; exact Nat.div_eq_of_lt (Nat.lt_of_lt_of_le hA.pf (Nat.pow_le_pow_right (by decide) h1))
  rw [this] at h;simp at h
theorem Dl {A k:Nat}(h:((A >>> k:Nat):Int) ≤ 0) (v:Nat) (hv:k ≤ v):A.testBit v = false:=by
 have h0 : A >>> k = 0 := Nat.le_zero.1 (Int.ofNat_le.1 h)
 have : A.testBit v = (A >>> k).testBit (v - k) := by rw [Nat.testBit_shiftRight]; congr 1;omega
 rw [this,h0]; simp
theorem qJ {A k:Nat}{u:List Int}(h:((A >>> k &&& 1:Nat):Int) = 1) (hu:u = ((List.range k).filter (A.testBit ·)).map (fun v:Nat => (v:Int))):u ++ [(k:Int)] = ((List.range (k + 1)).filter (A.testBit ·)).map (fun v:Nat => (v:Int)):=by
 rw [jP,if_pos ((vD A k).1 h),List.map_append,hu]; rfl
theorem qL {A k:Nat}{u:List Int}(h:¬ ((A >>> k &&& 1:Nat):Int) = 1) (hu:u = ((List.range k).filter (A.testBit ·)).map (fun v:Nat => (v:Int))):u = ((List.range (k + 1)).filter (A.testBit ·)).map (fun v:Nat => (v:Int)):=by
 rw [jP,if_neg (fun q => h ((vD A k).2 q)),List.append_nil,hu]
theorem eC (xs:List Nat):(flat cW xs).length = xs.length := by rw [aI cW (e := 1)]; omega
theorem tJ {xs:List Nat}{q:Nat}(h:q < xs.length):(flat cW xs).drop q = .v (.int .u64 ((xs[q]!:Nat):Int)) :: flat cW (xs.drop (q + 1)):=by
 have := c9 cW (e := 1) xs q h
 rw [Nat.mul_one] at this;rw [this]; rfl
section
variable {P : Program} {N : Nat} {Q : Exit → AS → Prop} {all : Array Oper} {rest : List Oper} {ts : List (Nat × AV)} {hs : List (Nat × Option (List AV))} {n : Nat} {z0 : Lo} {md : Md}
variable {d : Nat} {ty : TypeId} {pos : String} {af : Array Edge}
theorem v5 {t el z:Nat}{x i:Operand}{xs:List Nat}{k:IntKind}{m:Int}[ht:ArT P t z el] [he:SzT P el 1] [ha:AgT P el false] (hx:ev (lk ts) x = some (.agg (flat cW xs)))
  (hi : ev (lk ts) i = some (.v (.int k m))) (hl : xs.length = z) (hm : 0 ≤ m ∧ m < z) (hN : Nat.blt d N = true) {md' : Md} [hmd : MdA md (rO x ++ rO i) [.inl d] md'] (kk : RW P N all Q md' rest ⟨(d,.v (.int .u64 ((xs[m.toNat]! : Nat) : Int))) :: ts,hs,n,z0⟩) :
  RW P N all Q md (⟨some d,.index t x i,ty,pos,af,none⟩ :: rest) ⟨ts,hs,n,z0⟩ := by
 refine AX (c := .v (.int .u64 ((xs[m.toNat]! : Nat) : Int))) hx hi ht.pf he.pf ha.pf hm ?_ (b0 hN) (by rw [hmd.pf]; exact kk)
 have hlt : m.toNat < xs.length := by omega
 have := congrArg List.head? (tJ hlt)
 rw [List.head?_drop] at this
 rw [Nat.mul_one]; exact this
theorem tE {id z:Nat}{t:TypeId}{x:Operand}{xs:List Nat}[ha:AgT P t true] [hz:SzT P t z] (hx:ev (lk ts) x = some (.optr id 0)) (hH:aN hs id = some (flat cW xs)) (hl:xs.length = z) (h0:Nat.blt 0 z = true)
  (hN : Nat.blt d N = true) {md' : Md} [hmd : MdA md (rO x ++ rA (.optr id 0)) [.inl d] md'] (kk : RW P N all Q md' rest ⟨(d,.agg (flat cW xs)) :: ts,hs,n,z0⟩) : RW P N all Q md (⟨some d,.load t x,ty,pos,af,none⟩ :: rest) ⟨ts,hs,n,z0⟩ :=
 iS (cs := flat cW xs) hx ha.pf hz.pf (by simp only [deref,hH,Option.map_some,List.drop_zero]) (List.take_of_length_le (by rw [eC,hl]; exact Nat.le_refl _)) (by rw [eC,hl]) (by have := b0 h0;omega) (b0 hN) (by rw [hmd.pf]; exact kk)
theorem u9 {id z k:Nat}{t:TypeId}{x:Operand}{xs:List Nat}[ha:AgT P t true] [hz:SzT P t z] (hx:ev (lk ts) x = some (.optr id (0 + k * z))) (hH:aN hs id = some (flat cW xs)) (hl:k * z + z ≤ xs.length) (h0:Nat.blt 0 z = true)
  (hN : Nat.blt d N = true) {md' : Md} [hmd : MdA md (rO x ++ rA (.optr id (0 + k * z))) [.inl d] md'] (kk : RW P N all Q md' rest ⟨(d,.agg (flat cW ((xs.drop (k * z)).take z))) :: ts,hs,n,z0⟩) : RW P N all Q md (⟨some d,.load t x,ty,pos,af,none⟩ :: rest) ⟨ts,hs,n,z0⟩ := by
 have e1 : (flat cW xs).drop (0 + k * z) = flat cW (xs.drop (k * z)) := by
  have := fH cW (e := 1) xs (k * z);rw [Nat.mul_one] at this;rw [Nat.zero_add,this]
 have e2 : (flat cW (xs.drop (k * z))).take z = flat cW ((xs.drop (k * z)).take z) := by
  have := cT cW (e := 1) (xs.drop (k * z)) z;rw [Nat.mul_one] at this;exact this
 exact iS (cs := flat cW (xs.drop (k * z))) hx ha.pf hz.pf (by simp only [deref,hH,Option.map_some]; rw [e1]) e2 (by rw [eC,List.length_take,List.length_drop]; omega) (by have := b0 h0;omega) (b0 hN) (by rw [hmd.pf]; exact kk)
theorem Al {id o q:Nat}{t:TypeId}{x:Operand}{xs:List Nat}[ha:AgT P t false] (hx:ev (lk ts) x = some (.optr id o)) (hH:aN hs id = some (flat cW xs)) (ho:o = q) (hq:q < xs.length)
  (hN : Nat.blt d N = true) {md' : Md} [hmd : MdA md (rO x ++ rA (.optr id o)) [.inl d] md'] (kk : RW P N all Q md' rest ⟨(d,.v (.int .u64 ((xs[q]! : Nat) : Int))) :: ts,hs,n,z0⟩) : RW P N all Q md (⟨some d,.load t x,ty,pos,af,none⟩ :: rest) ⟨ts,hs,n,z0⟩ := by
 subst ho
 exact jA hx ha.pf (by simp only [deref,hH,Option.map_some]; rw [tJ hq]) rfl (b0 hN) (by rw [hmd.pf]; exact kk)
theorem sY {id z:Nat}{t:TypeId}{x y:Operand}{xs:List Nat}{cs:List AV}[hz:SzT P t z] (hx:ev (lk ts) x = some (.optr id 0)) (hy:ev (lk ts) y = some (.agg (flat cW xs))) (hH:aN hs id = some cs) (hl:xs.length = z) (hc:cs.length = z)
  {md' : Md} [hmd : MdA md (rO x ++ (rO y ++ [.inr id])) [.inr id] md'] (kk : RW P N all Q md' rest ⟨ts,(id,some (flat cW xs)) :: hs,n,z0⟩) : RW P N all Q md (⟨none,.store t x y,ty,pos,af,none⟩ :: rest) ⟨ts,hs,n,z0⟩ :=
 sX (cs' := flat cW xs) hx hy hz.pf rfl (by rw [eC, hl]) hH (by rw [eC]; omega) (by
  unfold fA
  rw [List.take_zero,List.nil_append,Nat.zero_add,eC,hl,List.drop_of_length_le (by omega),List.append_nil]) (by rw [hmd.pf]; exact kk)
theorem IG {a b:Nat}:0 + a * 6 + b * 1 = a * 6 + b := by omega
theorem B0 {xs:List Nat}{k v a:Nat}(hk:k * 6 + v < xs.length):fA (flat cW xs) (0 + k * 6 + v * 1) [.v (.int .u64 (a:Int))] = flat cW (xs.set (k * 6 + v) a):=by
 rw [show 0 + k * 6 + v * 1 = 0 + (k * 6 + v) * 1 by omega]; exact yA hk
end
theorem CW {m:Nat}:(List.replicate m ([Value.int .u64 0,Value.int .u64 0,Value.int .u64 0,Value.int .u64 0,Value.int .u64 0,Value.int .u64 0].map AV.v)).flatten = flat cW (List.replicate (m * 6) 0):=by
 induction m with
 | zero => rfl
 | succ m ih =>
  rw [List.replicate_succ,List.flatten_cons,ih,Nat.succ_mul,Nat.add_comm,← List.replicate_append_replicate,← bI]
  rfl
def lK (L : List Int) (f : List Nat) : List Nat := L.foldl (fun f v => f.set v.toNat 0) f
theorem kL:∀ (L:List Int) (f:List Nat),(lK L f).length = f.length
 | [],f => rfl
 | v :: L,f => by show (lK L (f.set v.toNat 0)).length = _; rw [kL L]; simp
theorem y6:∀ (L:List Int) (f:List Nat) (q:Nat),(lK L f)[q]! = if ∃ v ∈ L,v.toNat = q then 0 else f[q]!
 | [],f,q => by simp [lK]
 | v :: L, f, q => by
  show (lK L (f.set v.toNat 0))[q]! = _
  rw [y6 L]
  by_cases h : ∃ v ∈ L,v.toNat = q
  ·rw [if_pos h,if_pos (by obtain ⟨z,h1,h2⟩ := h;exact ⟨z,List.mem_cons_of_mem _ h1,h2⟩)]
  ·rw [if_neg h]
   by_cases hv : v.toNat = q
   ·rw [if_pos ⟨v, List.mem_cons_self, hv⟩]
    subst hv
    by_cases hq : v.toNat < f.length
    ·rw [m9 _ _ _ _ hq,if_pos rfl]
    ·rw [getElem!_neg (f.set v.toNat 0) v.toNat (by simpa using hq)]; rfl
   ·rw [if_neg (by rintro ⟨z, hz, e⟩; rcases List.mem_cons.1 hz with rfl | hz; exact hv e; exact h ⟨z, hz, e⟩)]
    simp only [List.getElem!_eq_getElem?_getD,List.getElem?_set_ne hv]
theorem zW {L:List Int}{f:List Nat}{k:Nat}(h:k < L.length):lK (L.take (k + 1)) f = (lK (L.take k) f).set (L[k]!).toNat 0:=by
 unfold lK;rw [nY _ _ _ _ h]
theorem CU {A n:Nat}(h:A < 2 ^ n){k:Nat}(hk:k < (bF A).length):0 ≤ (bF A)[k]! ∧ (bF A)[k]! < n:=by
 obtain ⟨v,h1,h2,h3⟩ := eB.1 (aV _ _ hk)
 have := jW h h2
 omega
theorem bW (A:Nat):(bF A).length ≤ 62:=by
 unfold bF;rw [List.length_map]; exact Nat.le_trans (List.length_filter_le _ _) (by simp)
def gP (A : List Nat) (i : Nat) : List Nat := (A.drop (i * 6)).take 6
theorem kP {A:List Nat}{i v n:Nat}(hA:A.length = n * 6) (hi:i < n) (hv:v < 6):(gP A i)[v]! = A[i * 6 + v]!:=by
 have h2 : i * 6 + v < A.length := by omega
 rw [aY _ _ h2,aY _ _ (by unfold gP;simp;omega)]
 unfold gP;simp
theorem iI {A:List Nat}{i n:Nat}(hA:A.length = n * 6) (hi:i < n):(gP A i).length = 6 := by unfold gP;simp;omega
def lQ (a : List Nat) (k : Nat) (s : List Nat × Bool) (v : Nat) : List Nat × Bool := Az xI a[v]! s (k * 6 + v)
def pA (a : List Nat) (s : List Nat × Bool) (k : Nat) : List Nat × Bool := (List.range 6).foldl (lQ a k) s
theorem CY {a b n:Nat}(h1:a < 2 ^ n) (h2:b < 2 ^ n):a ||| b < 2 ^ n := Nat.or_lt_two_pow h1 h2
theorem p8 (a:List Nat) (k v:Nat) (s:List Nat × Bool):(List.range (v + 1)).foldl (lQ a k) s = lQ a k ((List.range v).foldl (lQ a k) s) v := gS _ _ _
theorem AU {a:List Nat}{pts:List Pnt}{i j:Nat}(h:j < pts[i]!.next.length) (s:List Nat × Bool) :
  ((De pts i).take (j + 1)).foldl (pA a) s = pA a (((De pts i).take j).foldl (pA a) s) (pts[i]!.next[j]!).toNat := by
 rw [nY _ _ _ _ (by rw [yS]; exact h),EA h]
section
variable {P : Program} {N : Nat} {Q : Exit → AS → Prop} {all : Array Oper} {rest : List Oper} {ts : List (Nat × AV)} {hs : List (Nat × Option (List AV))} {n : Nat} {z0 : Lo} {md : Md}
variable {d : Nat} {ty : TypeId} {pos : String} {af : Array Edge}
theorem rQ {e:Nat}(hM:Nat.blt n aU = true) (hN:Nat.blt d N = true) (kk:RW P N all Q .txt rest ⟨(d,.own n 0 0 e) :: ts,(n,some []) :: hs,n + 1,z0⟩) :
  RW P N all Q .txt (⟨some d,.assign (.const (.slice none 0 0)),ty,pos,af,none⟩ :: rest) ⟨ts,hs,n,z0⟩ := by
 refine qI (av := .v (.slice none 0 0)) rfl hN (md' := .txt) (fV kk ((Le.nilOwn (d := d) e (by simp [iE]) (b0 hM)).trans ?_))
 refine Le.of (fun t av h => ?_) (fun i c h => h) (Nat.le_refl _) rfl
 show lk ((d,.own n 0 0 e) :: (d,.v (.slice none 0 0)) :: ts) t = _
 have h' : lk ((d,.own n 0 0 e) :: ts) t = some av := h
 simp only [iE] at h' ⊢
 split
 ·rename_i q;rw [if_pos q] at h'; exact h'
 ·rename_i q;rw [if_neg q] at h'; exact h'
theorem wJ {xs:List Nat}{t el m:Nat}{x i:Operand}{kk0:IntKind}{k:Int}[ht:SlT P t el] [he:SzT P el 6] (hx:ev (lk ts) x = some (.imm m (flat cW xs)))
  (hi : ev (lk ts) i = some (.v (.int kk0 k))) (hm : 0 ≤ k ∧ k < m) (hN : Nat.blt d N = true) {md' : Md} [hmd : MdA md (rO x ++ rO i) [.inl d] md'] (kk : RW P N all Q md' rest ⟨(d,.iptr (flat cW (xs.drop (k.toNat * 6)))) :: ts,hs,n,z0⟩) :
  RW P N all Q md (⟨some d,.indexAddr t x i,ty,pos,af,none⟩ :: rest) ⟨ts,hs,n,z0⟩ :=
 dT (out := .iptr (flat cW (xs.drop (k.toNat * 6)))) hx hi ht.pf he.pf (by
  simp only [tF]; rw [if_pos hm]
  have := fH cW (e := 1) xs (k.toNat * 6);rw [Nat.mul_one] at this;rw [this]) (b0 hN) (by rw [hmd.pf]; exact kk)
end
end Go.AL
namespace Go.AL
section
variable {P : Program} {N : Nat} {Q : Exit → AS → Prop} {all : Array Oper} {rest : List Oper} {ts : List (Nat × AV)} {hs : List (Nat × Option (List AV))} {n : Nat} {z0 : Lo} {md : Md}
variable {d : Nat} {ty : TypeId} {pos : String} {af : Array Edge}
theorem nN {fn:Go.Fn}{t i:Nat}{cs:List AV}(hx:lk ts t = some (.optr i 0)) (hH:aN hs i = some cs) (hN:Nat.blt d N = true)
  (kk : RW P N all Q .txt rest ⟨(d,.clos fn [] [.iptr cs]) :: (t,.iptr cs) :: ts,(i,none) :: hs,n,z0⟩) : RW P N all Q .txt (⟨some d,.makeFunc fn #[] #[.tmp t],ty,pos,af,none⟩ :: rest) ⟨ts,hs,n,z0⟩ :=
 fV (iZ (f := []) (c := [.iptr cs]) rfl (by show evL _ [Operand.tmp t] = _; simp [evL,ev,iE]) hN (md' := .txt) kk) (Le.frzP hx hH)
end
theorem EZ (n m:Nat) (T:Nat → Nat → Prop) (h:∀ i v,i < n → T i v → v < m):∃ A:List Nat,A.length = n ∧ ∀ i,i < n → ∀ v,A[i]!.testBit v = true ↔ T i v:=by
 have key : ∀ i : Nat, ∃ f : Nat → Bool, ∀ v, f v = true ↔ T i v := fun i => by
  have : ∀ v, ∃ b : Bool, b = true ↔ T i v := fun v => by
   by_cases hT : T i v
   ·exact ⟨true,by simp [hT]⟩
   ·exact ⟨false,by simp [hT]⟩
  exact ⟨fun v => Classical.choose (this v),fun v => Classical.choose_spec (this v)⟩
 refine ⟨(List.range n).map (fun i => dG (Classical.choose (key i)) m),by simp,fun i hi v => ?_⟩
 rw [aY _ _ (by simpa using hi),List.getElem_map,List.getElem_range,dO,Bool.and_eq_true,decide_eq_true_eq,Classical.choose_spec (key i) v]
 exact ⟨fun h2 => h2.2,fun h2 => ⟨h i v hi h2,h2⟩⟩
class BoT (P : Program) (t : Nat) : Prop where pf : P.underlying t = some .bool
theorem zG {P:Program}{t:TypeId}(h:P.underlying t = some .bool) (a b:Bool) (w:World):(Op.equal t (.bool a) (.bool b)).run P w = .ok (decide (a = b)) w:=by
 have e : ∀ d : Nat, (Op.equalIn (d + 1) t (.bool a) (.bool b)).run P w = .ok (a == b) w := fun d => by
  simp [Op.equalIn,run_underlying h]
 have : (a == b) = decide (a = b) := by cases a <;> cases b <;> rfl
 rw [← this]; exact e 9999
def G1 (op : BinOp) (a b : Bool) : Option Value :=
 match op with
 | .eql => some (.bool (decide (a = b)))
 | .neq => some (.bool (!decide (a = b)))
 | _ => none
section
variable {P : Program} {C : Ctx} {ι : Pl} {T : Nat → Option AV} {H : Nat → Option (List AV)} {a : Act} {w : World} {o : Oper}
theorem FO (g:TG C ι T H a w){op:BinOp}{t t':TypeId}{x y:Operand}{m n:Bool}{v:Value}(ht:P.underlying t = some .bool) (ho:o.op = .binOp op t x y t')
  (hx : ev T x = some (.v (.bool m))) (hy : ev T y = some (.v (.bool n))) (h : G1 op m n = some v) : Pu P C ι H a w o (.v v) := by
 have h1 := a7 g hx
 have h2 := a7 g hy
 simp only [Rd] at h1 h2
 refine ⟨v,?_,by simp [Rd]⟩
 have hg : (eqGuard op t x y (.bool m) (.bool n)).run P w = .ok () w := by
  unfold eqGuard
  cases op <;> simp
 have hb : (binOp op t (.bool m) (.bool n)).run P w = .ok v w := by
  cases op <;> simp only [G1] at h <;> cases h
  ·simp [binOp,zG (P := P) ht]
  ·simp [binOp,zG (P := P) ht]
 simp only [execOp,ho,h1,h2,Sem.run_bind,hg,Result.andThen_ok,hb,Sem.run_pure]
end
section
variable {P : Program} {N : Nat} {Q : Exit → AS → Prop} {all : Array Oper} {rest : List Oper} {ts : List (Nat × AV)} {hs : List (Nat × Option (List AV))} {n : Nat} {z0 : Lo} {md : Md}
variable {d : Nat} {ty : TypeId} {pos : String} {af : Array Edge}
theorem Fy {op:BinOp}{t t':TypeId}{x y:Operand}{m m':Bool}{v:Value}[ht:BoT P t] (hx:ev (lk ts) x = some (.v (.bool m))) (hy:ev (lk ts) y = some (.v (.bool m')))
  (h : G1 op m m' = some v) (hN : Nat.blt d N = true) {md' : Md} [hmd : MdA md (rO x ++ rO y) [.inl d] md'] (kk : RW P N all Q md' rest ⟨(d,.v v) :: ts,hs,n,z0⟩) : RW P N all Q md (⟨some d,.binOp op t x y t',ty,pos,af,none⟩ :: rest) ⟨ts,hs,n,z0⟩ :=
 cM rfl rfl (b0 hN) (fun C ι F T H a w ag g gh => FO g ht.pf rfl (ag.l.ev.trans hx) (ag.r.ev.trans hy) h) (by rw [hmd.pf]; exact kk)
end
theorem G5 {α:Type}{f:α → List AV}{e m:Nat}[h:FlT f e] {ys:List α}{H:Nat → Option (List AV)}(hm:m = ys.length):sCells H e (lS (.imm m (flat f ys))) = some (m,flat f ys):=by
 subst hm
 have hl : (flat f ys).length = ys.length * e := aI f ys
 show (if ys.length * e ≤ (flat f ys).length then some (ys.length,(flat f ys).take (ys.length * e)) else none) = _
 rw [if_pos (by omega),List.take_of_length_le (by omega)]
theorem nG {α:Type}{f:α → List AV}{ys:List α}{e m:Nat}{L:List AV}(h:m = 0):(((List.replicate 0 L).flatten).drop 0).take (m * e) ++ flat f ys = flat f ys := by subst h;simp
theorem Le.cells {ts:List (Nat × AV)}{hs:List (Nat × Option (List AV))}{n:Nat}{z0:Lo}{i:Nat}{cs cs':List AV}(hi:aN hs i = some cs) (hl:cs'.length = cs.length)
  (h : ∀ (w : World) (bad : Nat → Prop) (ι : Pl) (b β : Nat),RdC w bad ι cs b β → RdC w bad ι cs' b β) :
  Le ⟨ts,hs,n,z0⟩ ⟨ts,(i,some cs') :: hs,n,z0⟩ := by
 rintro C a w ⟨h0,ι,g,gh⟩
 have hk : ∀ id c, aN ((i, some cs') :: hs) id = some c → (id = i ∧ c = cs') ∨ (id ≠ i ∧ aN hs id = some c) := by
  intro id c hc
  rw [bN] at hc
  split at hc
  ·rename_i e;cases hc;exact .inl ⟨e,rfl⟩
  ·rename_i e;exact .inr ⟨fun h => e h,hc⟩
 have hk2 : ∀ id c, aN hs id = some c → ∃ c', aN ((i, some cs') :: hs) id = some c' := by
  intro id c hc
  rw [bN]
  split
  ·exact ⟨_,rfl⟩
  ·exact ⟨_,hc⟩
 have hb : aF C.X ι (aN ((i, some cs') :: hs)) = aF C.X ι (aN hs) := by
  funext b
  refine propext ⟨?_,?_⟩
  ·rintro (h | ⟨id, c, β, h1, h2⟩)
   ·exact .inl h
   ·rcases hk id c h1 with ⟨rfl, _⟩ | ⟨_, h3⟩
    ·exact .inr ⟨_,_,_,hi,h2⟩
    ·exact .inr ⟨_,_,_,h3,h2⟩
  ·rintro (h | ⟨id, c, β, h1, h2⟩)
   ·exact .inl h
   ·obtain ⟨c', h3⟩ := hk2 id c h1
    exact .inr ⟨_,_,_,h3,h2⟩
 refine ⟨h0,ι,⟨g.df,g.sz,fun t av ht => ?_⟩,?_,?_,gh.fr,gh.ex,gh.fresh⟩
 ·show ∃ y, a.tmps[t]? = some y ∧ Rd w (aF C.X ι (aN ((i, some cs') :: hs))) ι av y
  rw [hb]; exact g.tm t av ht
 ·intro id c hc
  show _ ∨ ∃ b β arr e,ι id = some (some (b,β)) ∧ w.heap[b]? = some (.cells arr e (0,0)) ∧ β + c.length ≤ arr.size ∧ RdC w (aF C.X ι (aN ((i,some cs') :: hs))) ι c b β ∧ ¬ C.X b ∧ (C.W0 b ∨ C.w0.heap.size ≤ b)
  rw [hb]
  rcases hk id c hc with ⟨rfl,rfl⟩ | ⟨_,h3⟩
  ·rcases gh.obj _ _ hi with ⟨q1, q2⟩ | ⟨b, β, arr, e, q1, q2, q3, q4, q5⟩
   ·subst q2
    exact .inl ⟨q1,List.eq_nil_of_length_eq_zero hl⟩
   ·exact .inr ⟨b,β,arr,e,q1,q2,by rw [hl]; exact q3,h _ _ _ _ _ q4,q5⟩
  ·exact gh.obj _ _ h3
 ·intro id id' c c' b β β' h1 h2 h3 h4
  obtain ⟨d1, e1⟩ : ∃ d, aN hs id = some d := by
   rcases hk id c h1 with ⟨rfl,_⟩ | ⟨_,h⟩
   ·exact ⟨_,hi⟩
   ·exact ⟨_,h⟩
  obtain ⟨d2, e2⟩ : ∃ d, aN hs id' = some d := by
   rcases hk id' c' h2 with ⟨rfl,_⟩ | ⟨_,h⟩
   ·exact ⟨_,hi⟩
   ·exact ⟨_,h⟩
  exact gh.sep id id' d1 d2 b β β' e1 e2 h3 h4
def lZ (r : List Bool) : List AV := [sl cB r]
instance : FlT lZ 1:=⟨fun _ => rfl⟩
instance : FE lZ (fun r => [sl cB r]):=⟨fun _ => rfl⟩
instance (r : List Bool) : Pur (lZ r):=⟨by show (AV.pur (sl cB r) && true) = true;rw [Bool.and_true]; exact bZ cB r⟩
theorem sU {α:Type}[Inhabited α] (xs:List α) (i:Nat):xs[i]! = if h:i < xs.length then xs[i] else default:=by
 split
 ·rw [aY _ _ ‹_›]
 ·rw [getElem!_neg xs i ‹_›]
theorem cY {α:Type}[Inhabited α] {a b:List α}(hl:a.length = b.length) (h:∀ i,i < a.length → a[i]! = b[i]!):a = b:=by
 refine List.ext_getElem hl fun i h1 h2 => ?_
 have := h i h1
 rwa [aY _ _ h1,aY _ _ h2] at this
theorem c7 {α:Type}[Inhabited α] (xs:List α) (i j:Nat) (x:α):(xs.set i x)[j]! = if i = j ∧ j < xs.length then x else xs[j]!:=by
 by_cases hj : j < xs.length
 ·rw [aY _ _ (by simpa using hj),List.getElem_set,aY _ _ hj]; grind
 ·rw [getElem!_neg (xs.set i x) j (by simpa using hj),getElem!_neg xs j hj,if_neg (by omega)]
theorem bT {α:Type}[Inhabited α] (f:Nat → α) (n i:Nat) (h:i < n):(((List.range n).map f:List α))[i]! = f i:=by
 rw [aY _ i (by simpa using h)]; simp
theorem g6 {α:Type}[Inhabited α] (x:α) (n i:Nat) (h:i < n):(List.replicate n x:List α)[i]! = x:=by
 rw [aY _ i (by simpa using h)]; simp
end Go.AL
namespace Go.AL
def rE (f : Nat → Nat) : Nat → Nat
 | 0 => 0
 | n + 1 => rE f n + f n
theorem sumF_le {f g:Nat → Nat}:∀ n,(∀ i,i < n → f i ≤ g i) → rE f n ≤ rE g n
 | 0,_ => Nat.le_refl _
 | n + 1,h => Nat.add_le_add (sumF_le n fun i hi => h i (by omega)) (h n (by omega))
theorem rG {f g:Nat → Nat}:∀ n,(∀ i,i < n → f i ≤ g i) → (∃ i,i < n ∧ f i < g i) → rE f n < rE g n
 | 0,_,⟨i,h,_⟩ => by omega
 | n + 1, h, ⟨i, hi, hlt⟩ => by
  show rE f n + f n < rE g n + g n
  have h1 := sumF_le n fun i hi => h i (by omega)
  have h2 := h n (by omega)
  by_cases e : i = n
  ·subst e;omega
  ·have := rG n (fun i hi => h i (by omega)) ⟨i, by omega, hlt⟩
   omega
section
variable {P : Program} {N : Nat} {Q : Exit → AS → Prop} {all : Array Oper} {rest : List Oper} {ts : List (Nat × AV)} {hs : List (Nat × Option (List AV))} {n : Nat} {z0 : Lo} {md : Md}
variable {d : Nat} {ty : TypeId} {pos : String} {af : Array Edge}
def Stop (p : Prop) : Prop := p
theorem a5 {op:Op}{g:Option (Nat × Bool)}(h:Stop (RW P N all Q md (⟨some d,op,ty,pos,af,g⟩ :: rest) ⟨ts,hs,n,z0⟩)):RW P N all Q md (⟨some d,op,ty,pos,af,g⟩ :: rest) ⟨ts,hs,n,z0⟩ := h
theorem b8 {l:List Oper}{s:AS}(h:RW P N all Q md l s):Stop (RW P N all Q md l s) := h
theorem xD {t el:TypeId}{x:Operand}{lo:Option Operand}{i o m e l:Nat}[ht:SlT P t el] [he:SzT P el e] (hx:ev (lk ts) x = some (.own i o m e))
  (hl : dX (lk ts) lo 0 = some l) (hb : l ≤ m) (hN : Nat.blt d N = true) {md' : Md} [hmd : MdA md (rO x ++ (rB lo ++ rB none)) [.inl d] md'] (kk : RW P N all Q md' rest ⟨(d,.own i (o + l * e) (m - l) e) :: ts,hs,n,z0⟩) :
  RW P N all Q md (⟨some d,.slice t x lo none none,ty,pos,af,none⟩ :: rest) ⟨ts,hs,n,z0⟩ :=
 eO (m := m) (h := m) hx rfl hl rfl (by simp [Gh,hb]) hN (md' := md') (hmd := hmd) kk
end
theorem zF {xs:List (List Bool)}{k:Nat}{r:List Bool}(hk:k < xs.length):fA (flat lZ xs) (0 + k * 1) [sl cB r] = flat lZ (xs.set k r) := gK hk rfl
def iN (a b : List Bool) : List Bool := (List.range a.length).map fun (l : Nat) => a[l]! || (decide (l < b.length) && b[l]!)
theorem fM (a b:List Bool):(iN a b).length = a.length := by simp [iN]
theorem fJ (a b:List Bool) (l:Nat) (h:l < a.length):(iN a b)[l]! = (a[l]! || (decide (l < b.length) && b[l]!)) := bT _ _ _ h
def rN (nv : Nat) (b : List Bool) : Nat := rE (fun v => if b[v]! = true then 0 else 1) nv
def IJ (nv N : Nat) (R : List (List Bool)) : Nat := rE (fun i => rN nv R[i]!) N
theorem Bc {nv:Nat}{a b:List Bool}(h:∀ v,v < nv → a[v]! = true → b[v]! = true):rN nv b ≤ rN nv a :=
 sumF_le nv fun v hv => by
  show (if b[v]! = true then 0 else 1) ≤ (if a[v]! = true then 0 else 1)
  by_cases ha : a[v]! = true
  ·rw [if_pos (h v hv ha)]; omega
  ·rw [if_neg ha]; split <;> omega
theorem Ff {nv:Nat}{a b:List Bool}(h:∀ v,v < nv → a[v]! = true → b[v]! = true){v:Nat}(hv:v < nv) (ha:a[v]! = false) (hb:b[v]! = true):rN nv b < rN nv a :=
 rG nv (fun v hv => by
  show (if b[v]! = true then 0 else 1) ≤ (if a[v]! = true then 0 else 1)
  by_cases ha : a[v]! = true
  ·rw [if_pos (h v hv ha)]; omega
  ·rw [if_neg ha]; split <;> omega) ⟨v,hv,by show (if b[v]! = true then 0 else 1) < (if a[v]! = true then 0 else 1);rw [if_pos hb,if_neg (by rw [ha]; decide)]; omega⟩
theorem G6 {nv N:Nat}{R R':List (List Bool)}(h:∀ i,i < N → rN nv R'[i]! ≤ rN nv R[i]!){i:Nat}(hi:i < N) (hlt:rN nv R'[i]! < rN nv R[i]!):IJ nv N R' < IJ nv N R :=
 rG N h ⟨i,hi,hlt⟩
theorem yY {pts:List Pnt}{i n:Nat}(e:iG pts i n):∃ k,k < pts[i]!.next.length ∧ (pts[i]!.next[k]!).toNat = n:=by
 obtain ⟨k,hk,h⟩ := List.getElem_of_mem e.2
 exact ⟨k,hk,by rw [aY _ _ hk,h]; simp⟩
theorem Di {ts:List Int}{pts:List Pnt}(w:WG ts pts){i k:Nat}(hi:i < pts.length) (hk:k < pts[i]!.next.length):iG pts i (pts[i]!.next[k]!).toNat:=by
 have hm := aV _ _ hk
 have := w.nx i hi _ hm
 exact ⟨hi,by rw [Int.toNat_of_nonneg this.1]; exact hm⟩
theorem wR {b:List Bool}{l:Nat}(h:b[l]! = true):l < b.length:=by
 apply Classical.byContradiction;intro hc
 rw [getElem!_neg b l hc] at h;cases h
def IT (R : List (List Bool)) (b nv : Nat) (fa : List (List Bool)) (pa : List Bool) (v : Nat) : List (List Bool) :=
 (List.range R.length).map fun (q : Nat) => if q = b + nv then iN R[q]! pa else if b ≤ q ∧ q < b + v then iN R[q]! fa[q - b]! else R[q]!
theorem FL (R:List (List Bool)) (b nv:Nat) (fa:List (List Bool)) (pa:List Bool) (v:Nat):(IT R b nv fa pa v).length = R.length := by simp [IT]
def DF (j kk : Nat) (i k : Nat) : Prop := i < j ∨ (i = j ∧ k < kk)
theorem xN {p q:Nat → Bool}{n:Nat}(h:∀ v,v < n → p v = q v):(List.range n).filter p = (List.range n).filter q :=
 List.filter_congr fun v hv => h v (List.mem_range.1 hv)
theorem C0 {A n:Nat}{p:Nat → Bool}(hA:Sm A) (hn:n ≤ 62) (h:∀ v,A.testBit v = (decide (v < n) && p v)):bF A = ((List.range n).filter p).map (fun v:Nat => (v:Int)):=by
 rw [lC (k := n) (fun v hv => by rw [h v,decide_eq_false (by omega)]; rfl) (by omega) hA]
 congr 1
 exact xN fun v hv => by rw [h v,decide_eq_true hv]; rfl
def dY (R : List (List Bool)) : List (Nat × Option (List AV)) := (List.range R.length).map fun k => (k + aU,some (flat cB R[k]!))
theorem uV (g:Nat → List AV) (j:Nat):∀ ks:List Nat,aN (ks.map fun k => (k + aU,some (g k))) (j + aU) = if j ∈ ks then some (g j) else none
 | [] => by simp [aN]
 | k :: ks => by
  rw [List.map_cons,bN,uV g j ks]
  by_cases h : j = k
  ·subst h;simp
  ·rw [if_neg (by omega)]; simp [h]
theorem tX (g:Nat → List AV) (i:Nat) (hi:i < aU):∀ ks:List Nat,aN (ks.map fun k => (k + aU,some (g k))) i = none
 | [] => by simp [aN]
 | k :: ks => by
  rw [List.map_cons,bN,tX g i hi ks,if_neg (by omega)]
theorem jN (R:List (List Bool)) (k:Nat):aN (dY R) (k + aU) = if k < R.length then some (flat cB R[k]!) else none:=by
 unfold dY;rw [uV (fun k => flat cB R[k]!)]; simp
theorem nK (R:List (List Bool)) (i:Nat) (hi:i < aU):aN (dY R) i = none := tX _ i hi _
theorem gN {R:List (List Bool)}{i:Nat}{cs:List AV}(h:aN (dY R) i = some cs):∃ k,k < R.length ∧ i = k + aU ∧ cs = flat cB R[k]!:=by
 rcases Nat.lt_or_ge i aU with hi|hi
 ·rw [nK R i hi] at h;cases h
 ·obtain ⟨k, rfl⟩ : ∃ k, i = k + aU := ⟨i - aU, by omega⟩
  rw [jN] at h
  split at h
  ·cases h;exact ⟨k,by assumption,rfl,rfl⟩
  ·cases h
inductive FamR (R R' : List (List Bool)) : List (Nat × Option (List AV)) → List (Nat × Option (List AV)) → Prop
 | here : FamR R R' (dY R) (dY R')
 | cons {t : Nat} {v : Option (List AV)} {l l' : List (Nat × Option (List AV))} : Nat.blt t aU = true → FamR R R' l l' → FamR R R' ((t,v) :: l) ((t,v) :: l')
theorem FamR.nil:FamR [] [] [] [] := FamR.here
theorem FamR.fam {R R':List (List Bool)}{hs hs':List (Nat × Option (List AV))}(h:FamR R R' hs hs') (k:Nat):aN hs (k + aU) = if k < R.length then some (flat cB R[k]!) else none:=by
 induction h with
 | here => exact jN R k
 | cons ht _ ih => rw [bN,if_neg (by have := b0 ht;omega)]; exact ih
theorem FamR.symm {R R':List (List Bool)}{hs hs':List (Nat × Option (List AV))}(h:FamR R R' hs hs'):FamR R' R hs' hs:=by
 induction h with
 | here => exact .here
 | cons ht _ ih => exact .cons ht ih
theorem FamR.low {R R':List (List Bool)}{hs hs':List (Nat × Option (List AV))}(h:FamR R R' hs hs') (i:Nat) (hi:i < aU):aN hs i = aN hs' i:=by
 induction h with
 | here => rw [nK R i hi,nK R' i hi]
 | cons ht _ ih => rw [bN,bN,ih]
theorem FamR.get {R R':List (List Bool)}{hs hs':List (Nat × Option (List AV))}(h:FamR R R' hs hs'){k:Nat}(hk:k < R.length):aN hs (k + aU) = some (flat cB R[k]!) := by rw [h.fam,if_pos hk]
theorem CT {α:Type}[Inhabited α] (xs:List α) (i j:Nat) (x:α):(xs.set i x)[j]! = if i = j ∧ j < xs.length then x else xs[j]! := c7 xs i j x
theorem Le.fset {ts:List (Nat × AV)}{hs hs':List (Nat × Option (List AV))}{n:Nat}{z0:Lo}{k:Nat}{r:List Bool}{R:List (List Bool)}(hF:FamR R (R.set k r) hs hs') (hk:k < R.length) :
  Le ⟨ts,(k + aU,some (flat cB r)) :: hs,n,z0⟩ ⟨ts,hs',n,z0⟩ := by
 refine Le.of (fun _ _ h => h) (fun i cs h => ?_) (Nat.le_refl _) rfl
 have h' : aN hs' i = some cs := h
 show aN ((k + aU,some (flat cB r)) :: hs) i = some cs
 rcases Nat.lt_or_ge i aU with hi|hi
 ·rw [bN,if_neg (by omega),hF.low i hi]; exact h'
 ·obtain ⟨j, rfl⟩ : ∃ j, i = j + aU := ⟨i - aU, by omega⟩
  rw [hF.symm.fam] at h'
  split at h'
  ·rename_i hj
   rw [List.length_set] at hj
   rw [CT] at h'
   rw [bN]
   by_cases e : j = k
   ·subst e;rw [if_pos ⟨rfl,hk⟩] at h'; rw [if_pos rfl]; exact h'
   ·rw [if_neg (fun q => e q.1.symm)] at h'
    rw [if_neg (by omega),hF.get hj]; exact h'
  ·cases h'
section
variable {P : Program} {N : Nat} {Q : Exit → AS → Prop} {all : Array Oper} {rest : List Oper} {ts : List (Nat × AV)} {hs : List (Nat × Option (List AV))} {n : Nat} {z0 : Lo} {md : Md}
variable {d : Nat} {ty : TypeId} {pos : String} {af : Array Edge}
theorem Dg {xs:List Bool}{q:Nat}(h:q < xs.length):(flat cB xs).drop q = .v (.bool xs[q]!) :: flat cB (xs.drop (q + 1)):=by
 have := c9 cB (e := 1) xs q h
 rw [Nat.mul_one] at this;rw [this]; rfl
theorem Dq {t:TypeId}{x:Operand}{k v:Nat}{R:List (List Bool)}[ha:AgT P t false] (hx:ev (lk ts) x = some (.optr (k + aU) (0 + v * 1))) (hF:FamR R R hs hs) (hk:k < R.length) (hv:v < R[k]!.length)
  (hN : Nat.blt d N = true) {md' : Md} [hmd : MdA md (rO x ++ [.inr (k + aU)]) [.inl d] md'] (kk : RW P N all Q md' rest ⟨(d,.v (.bool R[k]![v]!)) :: ts,hs,n,z0⟩) : RW P N all Q md (⟨some d,.load t x,ty,pos,af,none⟩ :: rest) ⟨ts,hs,n,z0⟩ := by
 refine jA (cs := (flat cB R[k]!).drop (0 + v * 1)) (c := .v (.bool R[k]![v]!)) hx ha.pf ?_ ?_ (b0 hN) (by rw [← hmd.pf] at kk;exact kk)
 ·simp only [deref,hF.get hk,Option.map_some]
 ·rw [Nat.zero_add,Nat.mul_one,Dg hv]; rfl
theorem zU {t:TypeId}{x y:Operand}{k v:Nat}{b:Bool}{R:List (List Bool)}{hs':List (Nat × Option (List AV))}[hz:SzT P t 1] (hx:ev (lk ts) x = some (.optr (k + aU) (0 + v * 1))) (hy:ev (lk ts) y = some (.v (.bool b)))
  (hF : FamR R (R.set k (R[k]!.set v b)) hs hs') (hk : k < R.length) (hv : v < R[k]!.length)
  (kk : RW P N all Q .txt rest ⟨ts,hs',n,z0⟩) : RW P N all Q .txt (⟨none,.store t x y,ty,pos,af,none⟩ :: rest) ⟨ts,hs,n,z0⟩ := by
 refine bH (md' := .txt) (cs := flat cB R[k]!) (new := [.v (.bool b)]) (cs' := flat cB (R[k]!.set v b)) hx hy rfl rfl (hF.get hk) ?_ ?_ (fV kk (Le.fset hF hk))
 ·rw [aI cB (e := 1),List.length_singleton]; omega
 ·exact gK hv rfl
theorem j6 {f g:Nat → List AV}{t el e m k M:Nat}{x i:Operand}{kk0:IntKind}[ht:SlT P t el] [he:SzT P el e] (hx:ev (lk ts) x = some (.imm m (flat f (List.range M))))
  (hi : ev (lk ts) i = some (.v (.int kk0 (k : Int)))) (hm : k < m) (hml : m = M) (hf : FlT f e) (hg : FE f g) (hN : Nat.blt d N = true) {md' : Md} [hmd : MdA md (rO x ++ rO i) [.inl d] md'] (kk : RW P N all Q md' rest ⟨(d,.iptr (g k ++ flat f ((List.range M).drop (k + 1)))) :: ts,hs,n,z0⟩) :
  RW P N all Q md (⟨some d,.indexAddr t x i,ty,pos,af,none⟩ :: rest) ⟨ts,hs,n,z0⟩ := by
 have e1 : (List.range M)[k]! = k := by rw [aY _ k (by simp;omega)]; simp
 exact oH hx hi hm (by simpa using hml) hf hg hN (md' := md') (hmd := hmd) (by rw [e1]; exact kk)
theorem mA {f g:Nat → List AV}{t el e m M:Nat}{k:Int}{x i:Operand}{kk0:IntKind}[ht:SlT P t el] [he:SzT P el e] (hx:ev (lk ts) x = some (.imm m (flat f (List.range M))))
  (hi : ev (lk ts) i = some (.v (.int kk0 k))) (hm : 0 ≤ k ∧ k < m) (hml : m = M) (hf : FlT f e) (hg : FE f g) (hN : Nat.blt d N = true) {md' : Md} [hmd : MdA md (rO x ++ rO i) [.inl d] md'] (kk : RW P N all Q md' rest ⟨(d,.iptr (g k.toNat ++ flat f ((List.range M).drop (k.toNat + 1)))) :: ts,hs,n,z0⟩) :
  RW P N all Q md (⟨some d,.indexAddr t x i,ty,pos,af,none⟩ :: rest) ⟨ts,hs,n,z0⟩ := by
 have e1 : (List.range M)[k.toNat]! = k.toNat := by rw [aY _ k.toNat (by simp;omega)]; simp
 exact qO hx hi hm (by simpa using hml) hf hg hN (md' := md') (hmd := hmd) (by rw [e1]; exact kk)
end
def oS (b w : Nat) (k : Nat) : List AV := [.own (b + k + aU) 0 w 1]
instance (b w : Nat) : FlT (oS b w) 1:=⟨fun _ => rfl⟩
instance (b w : Nat) : FE (oS b w) (fun k => [.own (b + k + aU) 0 w 1]):=⟨fun _ => rfl⟩
mutual
inductive Ld (D : List Nat) (H : Nat → Option (List AV)) : AV → AV → Prop
 | pur {v : AV} : v.pur = true → Ld D H v v
 | own {id m e : Nat} {cs cs' : List AV} : id ∈ D → H id = some cs → LdL D H cs cs' → Ld D H (.own id 0 m e) (.imm m cs')
 | optr {id : Nat} {cs cs' : List AV} : id ∈ D → H id = some cs → LdL D H cs cs' → Ld D H (.optr id 0) (.iptr cs')
 | imm {m : Nat} {cs cs' : List AV} : LdL D H cs cs' → Ld D H (.imm m cs) (.imm m cs')
 | agg {cs cs' : List AV} : LdL D H cs cs' → Ld D H (.agg cs) (.agg cs')
inductive LdL (D : List Nat) (H : Nat → Option (List AV)) : List AV → List AV → Prop
 | pur {v : List AV} : aZ v = true → LdL D H v v
 | nil : LdL D H [] []
 | cons {c c' : AV} {cs cs' : List AV} : Ld D H c c' → LdL D H cs cs' → LdL D H (c :: cs) (c' :: cs')
end
mutual
theorem Ld.agr {D:List Nat}{H H':Nat → Option (List AV)}(h:∀ id ∈ D,H id = H' id):∀ {v v':AV},Ld D H v v' → Ld D H' v v'
 | _,_,.pur hp => .pur hp
 | _,_,.own h1 h2 h3 => .own h1 (by rw [← h _ h1]; exact h2) (LdL.agr h h3)
 | _,_,.optr h1 h2 h3 => .optr h1 (by rw [← h _ h1]; exact h2) (LdL.agr h h3)
 | _,_,.imm h3 => .imm (LdL.agr h h3)
 | _,_,.agg h3 => .agg (LdL.agr h h3)
theorem LdL.agr {D:List Nat}{H H':Nat → Option (List AV)}(h:∀ id ∈ D,H id = H' id):∀ {v v':List AV},LdL D H v v' → LdL D H' v v'
 | _,_,.pur hp => .pur hp
 | _,_,.nil => .nil
 | _,_,.cons h1 h2 => .cons (Ld.agr h h1) (LdL.agr h h2)
end
mutual
theorem Ld.purR {D:List Nat}{H:Nat → Option (List AV)}:∀ {v v':AV},Ld D H v v' → v'.pur = true
 | _,_,.pur hp => hp
 | _,_,.own h1 h2 h3 => LdL.purR h3
 | _,_,.optr h1 h2 h3 => LdL.purR h3
 | _,_,.imm h3 => LdL.purR h3
 | _,_,.agg h3 => LdL.purR h3
theorem LdL.purR {D:List Nat}{H:Nat → Option (List AV)}:∀ {v v':List AV},LdL D H v v' → aZ v' = true
 | _,_,.pur hp => hp
 | _,_,.nil => rfl
 | _,_,.cons h1 h2 => by simp only [aZ,Ld.purR h1,LdL.purR h2,Bool.and_self]
end
theorem LdL.len {D:List Nat}{H:Nat → Option (List AV)}:∀ {v v':List AV},LdL D H v v' → v.length = v'.length
 | _,_,.pur hp => rfl
 | _,_,.nil => rfl
 | _,_,.cons h1 h2 => by simp [LdL.len h2]
mutual
theorem Ld.ok {C:Ctx}{ι:Pl}{F:Nat → Prop}{D:List Nat}{H:Nat → Option (List AV)}{w:World}(g:HG C ι F H w):∀ {v v':AV},Ld D H v v' → ∀ {y:Value},Rd w (aF C.X ι H) ι v y → Rd w C.X (fun _ => none) v' y
 | _,_,.pur hp,y,k => Rd.pur _ y hp (Rd.carry (⟨fun b o x h1 h2 => ⟨fun q => h1 (.inl q),h2⟩,fun _ _ h => h,fun _ => Nat.le_refl _⟩ : Carry w (aF C.X ι H) ι w C.X ι) _ _ k)
 | _, _, .own (id := id) (m := m) h1 h2 h3, y, k => by
  have hlen := LdL.len h3
  simp only [Rd] at k ⊢
  rcases k with ⟨_,rfl,a,rfl⟩ | ⟨b,β,c,q1,rfl,q2,q3⟩
  ·exact ⟨a,0,rfl,.inl rfl⟩
  ·rcases g.obj id _ h2 with ⟨p1, _⟩ | ⟨b', β', arr, e', p1, p2, p3, p4, p5, p6⟩
   ·rw [p1] at q1;cases q1
   ·rw [p1] at q1; cases q1
    exact ⟨_,c,rfl,.inr ⟨b,β + 0,q2,rfl,.inr ⟨p5,LdL.okC g h3 p4⟩⟩⟩
 | _, _, .optr (id := id) h1 h2 h3, y, k => by
  simp only [Rd] at k ⊢
  obtain ⟨b,β,q1,rfl⟩ := k
  rcases g.obj id _ h2 with ⟨p1,_⟩ | ⟨b',β',arr,e',p1,p2,p3,p4,p5,p6⟩
  ·rw [p1] at q1;cases q1
  ·rw [p1] at q1; cases q1
   exact ⟨b,β + 0,rfl,.inr ⟨p5,LdL.okC g h3 p4⟩⟩
 | _, _, .imm (cs := cs) (cs' := cs') h3, y, k => by
  have hlen := LdL.len h3
  simp only [Rd] at k ⊢
  obtain ⟨a,c,rfl,k⟩ := k
  refine ⟨a,c,rfl,?_⟩
  rcases k with k | ⟨b,o,hn,rfl,k⟩
  ·exact .inl k
  ·refine .inr ⟨b, o, hn, rfl, ?_⟩
   rcases k with k | ⟨hb,k⟩
   ·subst k;exact .inl (List.eq_nil_of_length_eq_zero (by rw [← hlen]; rfl))
   ·exact .inr ⟨fun q => hb (.inl q),LdL.okC g h3 k⟩
 | _, _, .agg h3, y, k => by
  simp only [Rd] at k ⊢
  obtain ⟨l,h1,h2⟩ := k
  exact ⟨l,h1,LdL.okL g h3 h2⟩
theorem LdL.okC {C:Ctx}{ι:Pl}{F:Nat → Prop}{D:List Nat}{H:Nat → Option (List AV)}{w:World}(g:HG C ι F H w):∀ {v v':List AV},LdL D H v v' → ∀ {b o:Nat},RdC w (aF C.X ι H) ι v b o → RdC w C.X (fun _ => none) v' b o
 | _,_,.pur hp,b,o,k => RdC.pur _ b o hp (RdC.carryB (⟨fun b o x h1 h2 => ⟨fun q => h1 (.inl q),h2⟩,fun _ _ h => h,fun _ => Nat.le_refl _⟩ : Carry w (aF C.X ι H) ι w C.X ι) _ _ _ (fun o x hx => hx) k)
 | _,_,.nil,b,o,k => by simp only [RdC]
 | _, _, .cons h1 h2, b, o, k => by
  simp only [RdC] at k ⊢
  obtain ⟨⟨x,q1,q2,q3⟩,q4⟩ := k
  exact ⟨⟨x,q1,q2,Ld.ok g h1 q3⟩,LdL.okC g h2 q4⟩
theorem LdL.okL {C:Ctx}{ι:Pl}{F:Nat → Prop}{D:List Nat}{H:Nat → Option (List AV)}{w:World}(g:HG C ι F H w):∀ {v v':List AV},LdL D H v v' → ∀ {y:List Value},RdL w (aF C.X ι H) ι v y → RdL w C.X (fun _ => none) v' y
 | _,_,.pur hp,y,k => RdL.pur _ y hp (RdL.carry (⟨fun b o x h1 h2 => ⟨fun q => h1 (.inl q),h2⟩,fun _ _ h => h,fun _ => Nat.le_refl _⟩ : Carry w (aF C.X ι H) ι w C.X ι) _ _ k)
 | _,_,.nil,y,k => by simpa only [RdL] using k
 | _, _, .cons h1 h2, y, k => by
  simp only [RdL] at k ⊢
  obtain ⟨x,l',q0,q1,q2,q3⟩ := k
  exact ⟨x,l',q0,q1,Ld.ok g h1 q2,LdL.okL g h2 q3⟩
end
theorem LdL.okV {C:Ctx}{ι:Pl}{F:Nat → Prop}{D:List Nat}{H:Nat → Option (List AV)}{w:World}(g:HG C ι F H w):∀ {v v':List AV},LdL D H v v' → ∀ {y:List Value},RdV w (aF C.X ι H) ι v y → RdV w C.X (fun _ => none) v' y
 | _,_,.pur hp,y,k => RdV.pur _ y hp (RdV.carry (⟨fun b o x h1 h2 => ⟨fun q => h1 (.inl q),h2⟩,fun _ _ h => h,fun _ => Nat.le_refl _⟩ : Carry w (aF C.X ι H) ι w C.X ι) _ _ k)
 | _,_,.nil,y,k => by simpa only [RdV] using k
 | _, _, .cons h1 h2, y, k => by
  simp only [RdV] at k ⊢
  obtain ⟨x,l',q0,q2,q3⟩ := k
  exact ⟨x,l',q0,Ld.ok g h1 q2,LdL.okV g h2 q3⟩
theorem LdL.flt {D:List Nat}{H:Nat → Option (List AV)}{α:Type}{f f':α → List AV}:∀ {xs:List α},(∀ x ∈ xs,LdL D H (f x) (f' x)) → LdL D H (flat f xs) (flat f' xs)
 | [],_ => .nil
 | x :: xs, h => by
  have h1 := h x (List.mem_cons_self)
  have h2 := LdL.flt (f := f) (f' := f') (xs := xs) (fun y hy => h y (List.mem_cons_of_mem _ hy))
  have app : ∀ {a a' b b' : List AV}, LdL D H a a' → LdL D H b b' → LdL D H (a ++ b) (a' ++ b') := by
   intro a a' b b' ha hb
   induction a generalizing a' with
   | nil =>
    have := LdL.len ha
    cases a' with
    | nil => exact hb
    | cons _ _ => simp at this
   | cons c cs ih =>
    cases ha with
    | pur hp =>
     simp only [aZ,Bool.and_eq_true] at hp
     exact .cons (.pur hp.1) (ih (.pur hp.2))
    | cons q1 q2 => exact .cons q1 (ih q2)
  simp only [Go.AL.flat,List.flatMap_cons] at h2 ⊢
  exact app h1 h2
theorem LdL.rows {D:List Nat}{hs:List (Nat × Option (List AV))}{R:List (List Bool)}{b m w:Nat}(hF:FamR R R hs hs) (hD:∀ k,k < m → b + k + aU ∈ D) (hm:b + m ≤ R.length) (hw:∀ k,k < m → R[b + k]!.length = w) :
  LdL D (aN hs) (flat (oS b w) (List.range m)) (flat lZ ((R.drop b).take m)) := by
 have e : flat lZ ((R.drop b).take m) = flat (fun k => [sl cB R[b + k]!]) (List.range m) := by
  have : (R.drop b).take m = (List.range m).map fun k => R[b + k]! := by
   refine List.ext_getElem (by simp;omega) fun i h1 h2 => ?_
   simp only [List.length_take,List.length_drop] at h1
   rw [List.getElem_take,List.getElem_drop,List.getElem_map,List.getElem_range,aY _ _ (by omega)]
  rw [this,Go.AL.flat,List.flatMap_map]; rfl
 rw [e]
 refine LdL.flt fun k hk => ?_
 rw [List.mem_range] at hk
 have hq := hw k hk
 show LdL D (aN hs) [.own (b + k + aU) 0 w 1] [.imm R[b + k]!.length (flat cB R[b + k]!)]
 rw [hq]
 exact .cons (.own (hD k hk) (hF.get (by omega)) (.pur (inferInstance : Pur (flat cB R[b + k]!)).pf)) .nil
section
variable {P : Program} {N : Nat} {Q : Exit → AS → Prop} {all : Array Oper} {rest : List Oper} {ts : List (Nat × AV)} {hs : List (Nat × Option (List AV))} {n : Nat} {z0 : Lo} {md : Md}
variable {d : Nat} {ty : TypeId} {pos : String} {af : Array Edge}
theorem kZ {k:FuncId}{args:Array Operand}{tys:Array TypeId}{avs avs2:List AV}{r:AV}(D:List Nat) [hc:CaT P k] (ha:evL (lk ts) args.toList = some avs) (hl:LdL D (aN hs) avs avs2) (h:PC P k avs2 (fun x => x = r)) (hfr:r.free = true) (hN:Nat.blt d N = true)
  {md' : Md} [hmd : MdA md (dV args.toList ++ D.map .inr) [.inl d] md'] (kk : RW P N all Q md' rest ⟨(d,r) :: ts,hs,n,z0⟩) : RW P N all Q md (⟨some d,.call ⟨.value (.func k),args,tys⟩,ty,pos,af,none⟩ :: rest) ⟨ts,hs,n,z0⟩ := by
 refine fX (rs := dV args.toList ++ D.map .inr) (ws := []) (n' := n) (out := r) rfl (Nat.le_refl _) (.inl rfl) (fun C ι F T H a w K Q' hCN ag hF g gh hK => ?_) (fun x hx => by cases hx;exact b0 hN) (by rw [← hmd.pf] at kk;exact kk)
 simp only [Oper.wp,dI hc.pf,Oper.upon]
 have hl' : LdL D H avs avs2 := hl.agr fun id hid => (ag.r.h id (List.mem_map_of_mem hid)).symm
 have hv := hl'.okV gh (eR g (ag.l.evL.trans ha))
 let C' : Ctx := { N := 0,w0 := w,W0 := fun _ => False,X := C.X,ι0 := fun _ => none,xlt := fun b hb => Nat.lt_of_lt_of_le (C.xlt b hb) gh.fr.size }
 have hbad : ∀ b,aF C'.X (fun _ => none) (aN []) b ↔ C.X b := fun b => ⟨fun h => (by rcases h with h | ⟨id,cs,β,h1,h2⟩ <;> first|exact h|cases h2),fun h => Or.inl h⟩
 have g' : HG C' (fun _ => none) (fun j => 0 ≤ j) (aN []) w :=
  ⟨fun id cs h => by simp [aN] at h,fun id id' cs cs' b β β' h => by simp [aN] at h,Fr.refl _ _,fun _ _ h => h,fun _ _ => rfl⟩
 have hcar : Carry w C.X (fun _ => none) w (aF C'.X (fun _ => none) (aN [])) (fun _ => none) := ⟨fun b o x h1 h2 => ⟨fun h => h1 ((hbad b).1 h),h2⟩,fun _ _ h => h,fun _ => Nat.le_refl _⟩
 refine (h C' _ w _ rfl rfl g' (RdV.carry hcar _ _ hv)).mono ?_
 rintro e w' ⟨v,r',H',ι',rfl,⟨rfl,_⟩,h4,h5⟩
 obtain ⟨g2,c2⟩ := gh.ext h5.fr
 exact hK ι w' v (g.carry c2) (g2.less (fun _ _ h => h) (fun j hj => hj.1)).1 (Rd.free _ _ hfr h4)
theorem Le.frzAll {D:List Nat}{av out:AV}(hd:lk ts d = some av) (hl:Ld D (aN hs) av out):Le ⟨ts,hs,n,z0⟩ ⟨[(d,out)],[],n,z0⟩:=by
 rintro C a w ⟨h0,ι,g,gh⟩
 obtain ⟨gh',car⟩ := gh.less (F' := Fn n z0) (H' := aN []) (fun id c h => by simp [aN] at h) (fun _ h => h)
 refine ⟨h0,ι,⟨g.df,g.sz,fun t av' ht => ?_⟩,gh'⟩
 have ht' : lk [(d,out)] t = some av' := ht
 rw [iE] at ht'
 split at ht'
 ·rename_i e
  subst e
  cases ht'
  obtain ⟨y,hy,hr⟩ := g.tm t _ hd
  refine ⟨y,hy,Rd.pur _ _ hl.purR (Rd.carry (⟨fun b o x h1 h2 => ⟨?_,h2⟩,fun _ _ h => h,fun _ => Nat.le_refl _⟩ : Carry w C.X (fun _ => none) w (aF C.X ι (aN [])) (fun _ => none)) _ _ (hl.ok gh hr))⟩
  rintro (h | ⟨id,cs,β,q1,q2⟩)
  ·exact h1 h
  ·simp [aN] at q1
 ·simp [lk] at ht'
end
mutual
theorem RnV.bw {w:World}{ρ:Nat → Option Nat}{bad bad':Nat → Prop}{ι ι':Pl}(h:∀ i i',ρ i = some i' → ι i = ι' i') (hc:∀ b,bad b → bad' b):∀ {v v':AV},RnV ρ v v' → ∀ {y:Value},Rd w bad' ι' v' y → Rd w bad ι v y
 | _,_,.pur hp,y,k => Rd.pur _ y hp (Rd.carry (⟨fun b o x h1 h2 => ⟨fun q => h1 (hc b q),h2⟩,fun _ _ h => h,fun _ => Nat.le_refl _⟩ : Carry w bad' ι' w bad ι') _ _ k)
 | _,_,.own hi,y,k => by simp only [Rd,h _ _ hi] at k ⊢; exact k
 | _,_,.optr hi,y,k => by simp only [Rd,h _ _ hi] at k ⊢; exact k
 | _, _, .imm (cs := cs) (cs' := cs') hl, y, k => by
  have hlen := RnL.len hl
  simp only [Rd] at k ⊢
  obtain ⟨a,c,rfl,k⟩ := k
  refine ⟨a,c,rfl,?_⟩
  rcases k with k | ⟨b,o,hn,rfl,k⟩
  ·exact .inl k
  ·refine .inr ⟨b, o, hn, rfl, ?_⟩
   rcases k with k | ⟨hb,k⟩
   ·subst k;exact .inl (List.eq_nil_of_length_eq_zero (by rw [hlen]; rfl))
   ·exact .inr ⟨fun q => hb (hc b q),RnL.bwC h hc hl k⟩
 | _, _, .agg hl, y, k => by
  simp only [Rd] at k ⊢
  obtain ⟨l,h1,h2⟩ := k
  exact ⟨l,h1,RnL.bwL h hc hl h2⟩
 | _, _, .tup hl, y, k => by
  simp only [Rd] at k ⊢
  obtain ⟨l,h1,h2⟩ := k
  exact ⟨l,h1,RnL.bwV h hc hl h2⟩
 | _, _, .clos h1 h2, y, k => by
  simp only [Rd] at k ⊢
  obtain ⟨lf,lc,q1,q2,q3⟩ := k
  exact ⟨lf,lc,q1,RnL.bwV h hc h1 q2,RnL.bwV h hc h2 q3⟩
theorem RnL.bwL {w:World}{ρ:Nat → Option Nat}{bad bad':Nat → Prop}{ι ι':Pl}(h:∀ i i',ρ i = some i' → ι i = ι' i') (hc:∀ b,bad b → bad' b):∀ {v v':List AV},RnL ρ v v' → ∀ {y:List Value},RdL w bad' ι' v' y → RdL w bad ι v y
 | _,_,.pur hp,y,k => RdL.pur _ y hp (RdL.carry (⟨fun b o x h1 h2 => ⟨fun q => h1 (hc b q),h2⟩,fun _ _ h => h,fun _ => Nat.le_refl _⟩ : Carry w bad' ι' w bad ι') _ _ k)
 | _,_,.nil,y,k => by simpa only [RdL] using k
 | _, _, .cons h1 h2, y, k => by
  simp only [RdL] at k ⊢
  obtain ⟨x,l',q0,q1,q2,q3⟩ := k
  exact ⟨x,l',q0,q1,RnV.bw h hc h1 q2,RnL.bwL h hc h2 q3⟩
theorem RnL.bwV {w:World}{ρ:Nat → Option Nat}{bad bad':Nat → Prop}{ι ι':Pl}(h:∀ i i',ρ i = some i' → ι i = ι' i') (hc:∀ b,bad b → bad' b):∀ {v v':List AV},RnL ρ v v' → ∀ {y:List Value},RdV w bad' ι' v' y → RdV w bad ι v y
 | _,_,.pur hp,y,k => RdV.pur _ y hp (RdV.carry (⟨fun b o x h1 h2 => ⟨fun q => h1 (hc b q),h2⟩,fun _ _ h => h,fun _ => Nat.le_refl _⟩ : Carry w bad' ι' w bad ι') _ _ k)
 | _,_,.nil,y,k => by simpa only [RdV] using k
 | _, _, .cons h1 h2, y, k => by
  simp only [RdV] at k ⊢
  obtain ⟨x,l',q0,q2,q3⟩ := k
  exact ⟨x,l',q0,RnV.bw h hc h1 q2,RnL.bwV h hc h2 q3⟩
theorem RnL.bwC {w:World}{ρ:Nat → Option Nat}{bad bad':Nat → Prop}{ι ι':Pl}(h:∀ i i',ρ i = some i' → ι i = ι' i') (hc:∀ b,bad b → bad' b):∀ {v v':List AV},RnL ρ v v' → ∀ {b o:Nat},RdC w bad' ι' v' b o → RdC w bad ι v b o
 | _,_,.pur hp,b,o,k => RdC.pur _ b o hp (RdC.carryB (⟨fun b o x h1 h2 => ⟨fun q => h1 (hc b q),h2⟩,fun _ _ h => h,fun _ => Nat.le_refl _⟩ : Carry w bad' ι' w bad ι') _ _ _ (fun o x hx => hx) k)
 | _,_,.nil,b,o,k => by simp only [RdC]
 | _, _, .cons h1 h2, b, o, k => by
  simp only [RdC] at k ⊢
  obtain ⟨⟨x,q1,q2,q3⟩,q4⟩ := k
  exact ⟨⟨x,q1,q2,RnV.bw h hc h1 q3⟩,RnL.bwC h hc h2 q4⟩
end
theorem RnL.app {ρ:Nat → Option Nat}:∀ {a a' b b':List AV},RnL ρ a a' → RnL ρ b b' → RnL ρ (a ++ b) (a' ++ b')
 | [], a', b, b', ha, hb => by
  have := ha.len
  cases a' with
  | nil => exact hb
  | cons _ _ => simp at this
 | c :: cs, _, b, b', .pur hp, hb => by
  simp only [aZ,Bool.and_eq_true] at hp
  exact .cons (.pur hp.1) (RnL.app (.pur hp.2) hb)
 | c :: cs,_,b,b',.cons h1 h2,hb => .cons h1 (RnL.app h2 hb)
theorem RnL.flt {ρ:Nat → Option Nat}{α:Type}{f f':α → List AV}:∀ {xs:List α},(∀ x ∈ xs,RnL ρ (f x) (f' x)) → RnL ρ (flat f xs) (flat f' xs)
 | [],_ => .nil
 | x :: xs, h => by
  have h1 := h x (List.mem_cons_self)
  have h2 := RnL.flt (f := f) (f' := f') (xs := xs) (fun y hy => h y (List.mem_cons_of_mem _ hy))
  simp only [flat,List.flatMap_cons] at h2 ⊢
  exact h1.app h2
theorem Le.renG (ρ:Nat → Option Nat){ts ts':List (Nat × AV)}{hs hs':List (Nat × Option (List AV))}{n n':Nat}{lo lo':Lo}(hlo:lo'.lo = lo.lo) (hfb:lo.fb ≤ lo'.fb)
  (hid : ∀ id,id < lo.lo ∨ (aU ≤ id ∧ id < lo.fb) → ρ id = some id) (hinj : ∀ a b c,ρ a = some c → ρ b = some c → a = b) (hfr : ∀ id,Fn n' lo' id → ρ id = none)
  (h1 : ∀ t v,lk ts' t = some v → ∃ v0,lk ts t = some v0 ∧ RnV ρ v v0) (h2 : ∀ id cs,aN hs' id = some cs → ∃ j cs0,ρ id = some j ∧ aN hs j = some cs0 ∧ RnL ρ cs cs0) :
  Le ⟨ts,hs,n,lo⟩ ⟨ts',hs',n',lo'⟩ := by
 rintro C a w ⟨h0,ι,g,gh⟩
 let ι' : Pl := fun id => match ρ id with|some j => ι j|none => none
 have hto : ∀ id j,ρ id = some j → ι' id = ι j := fun id j h => by simp only [ι',h]
 have hbad : ∀ b, aF C.X ι' (aN hs') b → aF C.X ι (aN hs) b := by
  rintro b (h | ⟨id,cs,β,q1,q2⟩)
  ·exact .inl h
  ·obtain ⟨j, cs0, q3, q4, _⟩ := h2 id cs q1
   rw [hto _ _ q3] at q2
   exact .inr ⟨j,cs0,β,q4,q2⟩
 refine ⟨fun id h => ?_,ι',⟨g.df,g.sz,fun t v ht => ?_⟩,⟨fun id cs h => ?_,fun id id' cs cs' b β β' q1 q2 q3 q4 => ?_,gh.fr,fun id p hp => ?_,fun id hid' => ?_⟩⟩
 ·have h' : lo.lo ≤ id := by rw [← hlo]; exact h
  rcases h0 id h' with q|q
  ·exact .inl ⟨q.1,Nat.lt_of_lt_of_le q.2 hfb⟩
  ·exact .inr q
 ·obtain ⟨v0, q1, q2⟩ := h1 t v ht
  obtain ⟨y,q3,q4⟩ := g.tm t v0 q1
  exact ⟨y,q3,RnV.bw hto hbad q2 q4⟩
 ·obtain ⟨j, cs0, q3, q4, q5⟩ := h2 id cs h
  rcases gh.obj j cs0 q4 with ⟨p1,p2⟩ | ⟨b,β,arr,e,p1,p2,p3,p4,p5,p6⟩
  ·refine .inl ⟨by rw [hto _ _ q3]; exact p1, ?_⟩
   subst p2;exact List.eq_nil_of_length_eq_zero (by rw [q5.len]; rfl)
  ·exact .inr ⟨b,β,arr,e,by rw [hto _ _ q3]; exact p1,p2,by rw [q5.len]; exact p3,RnL.bwC hto hbad q5 p4,p5,p6⟩
 ·obtain ⟨j, c1, r1, r2, _⟩ := h2 id cs q1
  obtain ⟨j',c2,r3,r4,_⟩ := h2 id' cs' q2
  rw [hto _ _ r1] at q3
  rw [hto _ _ r3] at q4
  have := gh.sep _ _ _ _ _ _ _ r2 r4 q3 q4
  subst this
  exact hinj _ _ _ r1 r3
 ·have : ρ id = some id := by
   refine hid id ?_
   rcases Nat.lt_or_ge id lo.lo with q|q
   ·exact .inl q
   ·rcases h0 id q with q1 | q1
    ·exact .inr q1
    ·rw [q1] at hp;cases hp
  rw [hto _ _ this]; exact gh.ex id p hp
 ·have := hfr id hid'
  simp only [ι',this]
def gJ (m : List (Nat × Nat)) (lo : Lo) (pn : Option Nat) (id : Nat) : Option Nat :=
 if id < lo.lo then some id else if aU ≤ id then (if id < lo.fb then some id else if id = lo.fb then pn else none) else sO m id
theorem kD {m:List (Nat × Nat)}{lo:Lo}{pn:Option Nat}{id:Nat}(h1:aU ≤ id) (h2:id < lo.fb):gJ m lo pn id = some id:=by
 unfold gJ;split
 ·rfl
 ·simp [h1,h2]
def Ig (ρ : Nat → Option Nat) (l : List (Nat × AV)) : List (Nat × AV) → Prop
 | [] => True
 | (t,v) :: l' => (∃ v0,lk l t = some v0 ∧ RnV ρ v v0) ∧ Ig ρ l l'
def xT (ρ : Nat → Option Nat) (l : List (Nat × Option (List AV))) : List (Nat × Option (List AV)) → Prop
 | [] => True
 | (t,none) :: l' => xT ρ l l'
 | (t,some cs) :: l' => (∃ j cs0,ρ t = some j ∧ aN l j = some cs0 ∧ RnL ρ cs cs0) ∧ xT ρ l l'
theorem v8 {ρ:Nat → Option Nat}{l:List (Nat × AV)}:∀ {l':List (Nat × AV)},Ig ρ l l' → ∀ t v,lk l' t = some v → ∃ v0,lk l t = some v0 ∧ RnV ρ v v0
 | [],_,t,v,h => by simp [lk] at h
 | (u, x) :: l', hr, t, v, h => by
  simp only [Ig] at hr
  simp only [iE] at h
  split at h
  ·rename_i e;subst e;cases h;exact hr.1
  ·exact v8 hr.2 t v h
theorem mQ {a b:List (Nat × Option (List AV))}{u:Nat}{c:List AV}:aN (a ++ b) u = some c → aN a u = some c ∨ aN b u = some c:=by
 induction a with
 | nil => exact fun h => .inr h
 | cons x a ih =>
  obtain ⟨t,v⟩ := x
  rw [List.cons_append,bN,bN]
  split
  ·exact fun h => .inl h
  ·exact ih
theorem Ch {a b:List (Nat × Option (List AV))}{u:Nat}{c:List AV}(h:aN a u = some c):aN (a ++ b) u = some c:=by
 induction a with
 | nil => simp [aN] at h
 | cons x a ih =>
  obtain ⟨t,v⟩ := x
  rw [List.cons_append]
  rw [bN] at h ⊢
  split
  ·rename_i e;rw [if_pos e] at h;exact h
  ·rename_i e;rw [if_neg e] at h;exact ih h
theorem BP {a b:List (Nat × Option (List AV))}{u:Nat}(h:dU u a = true):aN (a ++ b) u = aN b u:=by
 induction a with
 | nil => rfl
 | cons x a ih =>
  obtain ⟨t,v⟩ := x
  simp only [dU,Bool.and_eq_true] at h
  rw [List.cons_append,bN,if_neg (by have := b0 h.1;omega)]
  exact ih h.2
theorem lY {n m:Nat}(h:n ≤ m):∀ {a:List (Nat × Option (List AV))},dU n a = true → dU m a = true
 | [],_ => rfl
 | (t, v) :: a, k => by
  simp only [dU,Bool.and_eq_true] at k ⊢
  exact ⟨by have := b0 k.1;simp [Nat.blt]; omega,lY h k.2⟩
theorem mN {ρ:Nat → Option Nat}{l:List (Nat × Option (List AV))}:∀ {l':List (Nat × Option (List AV))},xT ρ l l' → ∀ t cs,aN l' t = some cs →
  ∃ j cs0,ρ t = some j ∧ aN l j = some cs0 ∧ RnL ρ cs cs0
 | [],_,t,v,h => by simp [aN] at h
 | (u, none) :: l', hr, t, v, h => by
  simp only [xT] at hr
  simp only [bN] at h
  split at h
  ·cases h
  ·exact mN hr t v h
 | (u, some x) :: l', hr, t, v, h => by
  simp only [xT] at hr
  simp only [bN] at h
  split at h
  ·rename_i e;subst e;cases h;exact hr.1
  ·exact mN hr.2 t v h
theorem rD {m:List (Nat × Nat)}{lo:Lo}{pn:Option Nat}{n':Nat}(hm:CN lo.lo n' m = true){a c:Nat}(h:gJ m lo pn a = some c) :
  (a < lo.lo ∧ c = a) ∨ (lo.lo ≤ a ∧ aU ≤ a ∧ a < lo.fb ∧ c = a) ∨ (lo.lo ≤ a ∧ aU ≤ a ∧ a = lo.fb ∧ pn = some c) ∨ (lo.lo ≤ a ∧ a < aU ∧ a < n' ∧ lo.lo ≤ c ∧ c < aU ∧ sO m a = some c) := by
 unfold gJ at h
 split at h
 ·cases h;exact .inl ⟨by assumption,rfl⟩
 ·split at h
  ·split at h
   ·cases h;exact .inr (.inl ⟨by omega,by assumption,by assumption,rfl⟩)
   ·split at h
    ·exact .inr (.inr (.inl ⟨by omega,by assumption,by assumption,h⟩))
    ·cases h
  ·have := fU hm _ _ h
   exact .inr (.inr (.inr ⟨by omega,by omega,by omega,by omega,by omega,h⟩))
theorem Le.renF (m:List (Nat × Nat)) (pn:Option Nat){ts ts':List (Nat × AV)}{hs hs':List (Nat × Option (List AV))}{n n':Nat}{lo lo':Lo}(hm:CN lo.lo n' m = true) (hn:lo.lo ≤ n') (hlo:lo'.lo = lo.lo)
  (hfb : lo'.fb = lo.fb + (if pn.isSome then 1 else 0)) (hp : ∀ b,pn = some b → lo.lo ≤ b ∧ b < aU ∧ ∀ a,sO m a ≠ some b)
  (h1 : ∀ t v,lk ts' t = some v → ∃ v0,lk ts t = some v0 ∧ RnV (gJ m lo pn) v v0) (h2 : ∀ id cs,aN hs' id = some cs → ∃ j cs0,gJ m lo pn id = some j ∧ aN hs j = some cs0 ∧ RnL (gJ m lo pn) cs cs0) :
  Le ⟨ts,hs,n,lo⟩ ⟨ts',hs',n',lo'⟩ := by
 refine Le.renG (gJ m lo pn) hlo (by rw [hfb]; omega) (fun id h => ?_) (fun a b c ha hb => ?_) (fun id h => ?_) h1 h2
 ·rcases h with h | h
  ·unfold gJ;rw [if_pos h]
  ·exact kD h.1 h.2
 ·rcases rD hm ha with a1 | a1 | a1 | a1 <;> rcases rD hm hb with b1 | b1 | b1 | b1
  all_goals try omega
  ·have := hp c b1.2.2.2;omega
  ·have := hp c b1.2.2.2;omega
  ·have := hp c a1.2.2.2;omega
  ·have := hp c a1.2.2.2;omega
  ·exact absurd b1.2.2.2.2.2 ((hp c a1.2.2.2).2.2 b)
  ·exact absurd a1.2.2.2.2.2 ((hp c b1.2.2.2).2.2 a)
  ·exact sL hm _ _ _ a1.2.2.2.2.2 b1.2.2.2.2.2
 ·cases hc : gJ m lo pn id with
  | none => rfl
  | some c =>
   have h3 : n' ≤ id := h.1
   have h4 : id < aU ∨ lo'.fb ≤ id := h.2
   rcases rD hm hc with a1|a1|a1|a1
   ·omega
   ·omega
   ·rw [a1.2.2.2] at hfb;simp at hfb;omega
   ·omega
theorem Le.renF0 (m:List (Nat × Nat)){R:List (List Bool)}{ts ts':List (Nat × AV)}{hs lits:List (Nat × Option (List AV))}{n n':Nat}{lo:Lo}{l0:Nat}(hF:FamR R R hs hs) (hz:lo = ⟨l0,aU + R.length⟩) (hm:CN l0 n' m = true) (hn:l0 ≤ n')
  (h1 : Ig (gJ m lo none) ts ts') (h2 : xT (gJ m lo none) hs lits) : Le ⟨ts,hs,n,lo⟩ ⟨ts',lits ++ dY R,n',⟨l0,aU + R.length⟩⟩ := by
 subst hz
 refine Le.renF m none hm hn rfl rfl (fun b h => by cases h) (v8 h1) (fun id cs h => ?_)
 rcases mQ h with h|h
 ·exact mN h2 id cs h
 ·obtain ⟨k, hk, rfl, rfl⟩ := gN h
  exact ⟨_,_,kD (by omega) (by show k + aU < aU + R.length;omega),hF.get hk,.pur (inferInstance : Pur (flat cB R[k]!)).pf⟩
theorem Le.renF1 (m:List (Nat × Nat)) (b:Nat){r:List Bool}{R R':List (List Bool)}{ts ts':List (Nat × AV)}{hs lits:List (Nat × Option (List AV))}{n n':Nat}{lo:Lo}{l0:Nat}(hF:FamR R R hs hs) (hz:lo = ⟨l0,aU + R.length⟩) (hm:CN l0 n' m = true) (hn:l0 ≤ n')
  (hlb : l0 ≤ aU) (hb : l0 ≤ b ∧ b < aU ∧ (m.all fun p => !Nat.beq p.2 b) = true) (hr : aN hs b = some (flat cB r)) (hR : R' = R ++ [r])
  (h1 : Ig (gJ m lo (some b)) ts ts') (h2 : xT (gJ m lo (some b)) hs lits) : Le ⟨ts,hs,n,lo⟩ ⟨ts',lits ++ dY R',n',⟨l0,aU + R'.length⟩⟩ := by
 subst hz hR
 refine Le.renF m (some b) hm hn rfl (by show aU + (R ++ [r]).length = aU + R.length + 1;simp [Nat.add_assoc]) (fun b' h => ?_) (v8 h1) (fun id cs h => ?_)
 ·cases h
  refine ⟨hb.1,hb.2.1,fun a ha => ?_⟩
  have := rU ha
  have h3 := hb.2.2
  rw [List.all_eq_true] at h3
  have := h3 _ this
  simp at this
 ·rcases mQ h with h | h
  ·exact mN h2 id cs h
  ·obtain ⟨k, hk, rfl, rfl⟩ := gN h
   rw [List.length_append,List.length_singleton] at hk
   rcases Nat.lt_or_ge k R.length with hk2|hk2
   ·have e : (R ++ [r])[k]! = R[k]! := by rw [aY _ _ (by simp; omega), aY _ _ hk2, List.getElem_append_left hk2]
    exact ⟨_,_,kD (by omega) (by show k + aU < aU + R.length;omega),hF.get hk2,by rw [e]; exact .pur (inferInstance : Pur (flat cB R[k]!)).pf⟩
   ·have e : k = R.length := by omega
    subst e
    have e2 : (R ++ [r])[R.length]! = r := by rw [aY _ _ (by simp)]; simp
    refine ⟨b,flat cB r,?_,hr,?_⟩
    ·unfold gJ
     rw [if_neg (by show ¬ R.length + aU < l0;omega),if_pos (by omega),if_neg (by show ¬ R.length + aU < aU + R.length;omega),if_pos (by show R.length + aU = aU + R.length;omega)]
    ·rw [e2]; exact .pur (inferInstance : Pur (flat cB r)).pf
end Go.AL
