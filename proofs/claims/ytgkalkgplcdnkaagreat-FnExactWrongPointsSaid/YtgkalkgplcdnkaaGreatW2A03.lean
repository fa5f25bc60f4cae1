/-
 A part of the proofs over this program: rules and contracts of its functions (the rules).
-/
import Derived.Test.YtgkalkgplcdnkaaGreatW2A02
import Derived.KernelRfl
import Derived.Test.YtgkalkgplcdnkaaGreatProg
set_option linter.unusedVariables false
set_option linter.unusedSimpArgs false
namespace Go.AL
open Go.RowKit
class SlT (P : Program) (t : Nat) (e : outParam Nat) : Prop where pf : kG P t = some e
class SzT (P : Program) (t : Nat) (e : outParam Nat) : Prop where pf : e9 P t = some e
class ByT (P : Program) (t : Nat) (e : outParam Nat) : Prop where pf : xP P t = some e
class AgT (P : Program) (t : Nat) (e : outParam Bool) : Prop where pf : vQ P t = some e
class ZrT (P : Program) (t : Nat) (e : outParam (List Value)) : Prop where pf : lL P t = some e
class FdT (P : Program) (t f : Nat) (o ft : outParam Nat) : Prop where pf : uV P t f = some (o,ft)
class PtT (P : Program) (t : Nat) (l : outParam (List (Nat × Nat))) : Prop where pf : Ft P t = some l
class CaT (P : Program) (k : Nat) : Prop where pf : eH P k = true
class MdA (md : Md) (rs ws : List fS) (md' : outParam Md) : Prop where pf : md.add rs ws = md'
instance (rs ws : List fS) : MdA .txt rs ws .txt:=⟨rfl⟩
instance (ks : List (List fS × List fS)) (p rs ws : List fS) : MdA (.drw ks p) rs ws (.drw (ks ++ [(p ++ rs,ws)]) []):=⟨rfl⟩
class MdP (md : Md) (r : fS) (md' : outParam Md) : Prop where pf : md.pen r = md'
instance (r : fS) : MdP .txt r .txt:=⟨rfl⟩
instance (ks : List (List fS × List fS)) (p : List fS) (r : fS) : MdP (.drw ks p) r (.drw ks (r :: p)):=⟨rfl⟩
def aA {α : Type} (f : α → List AV) (xs : List α) : List AV := xs.flatMap f
class FlT {α : Type} (f : α → List AV) (e : outParam Nat) : Prop where pf : ∀ x,(f x).length = e
theorem aI {α:Type}(f:α → List AV){e:Nat}[h:FlT f e]:∀ (xs:List α),(aA f xs).length = xs.length * e
 | [] => by simp [aA]
 | x :: xs => by
  have := aI f (e := e) xs
  simp only [aA,List.flatMap_cons,List.length_append,List.length_cons,h.pf] at this ⊢
  rw [this,Nat.add_mul]; omega
theorem e8 {α:Type}[Inhabited α] (f:α → List AV){e:Nat}[h:FlT f e]:∀ (xs:List α) (k:Nat),k < xs.length → (aA f xs).drop (k * e) = f xs[k]! ++ aA f (xs.drop (k + 1))
 | [],k,hk => by simp at hk
 | x :: xs,0,_ => by simp [aA]
 | x :: xs, k + 1, hk => by
  have := e8 f (e := e) xs k (by simpa using hk)
  simp only [aA,List.flatMap_cons,List.drop_succ_cons] at this ⊢
  rw [show (k + 1) * e = (f x).length + k * e from by rw [h.pf,Nat.add_mul]; omega,← List.drop_drop,List.drop_left,this]
  simp
theorem eE {α:Type}(f:α → List AV){e:Nat}[h:FlT f e]:∀ (xs:List α) (k:Nat),(aA f xs).take (k * e) = aA f (xs.take k)
 | [],k => by simp [aA]
 | x :: xs,0 => by simp [aA]
 | x :: xs, k + 1 => by
  have := eE f (e := e) xs k
  simp only [aA,List.flatMap_cons,List.take_succ_cons] at this ⊢
  rw [show (k + 1) * e = (f x).length + k * e from by rw [h.pf,Nat.add_mul]; omega,List.take_length_add_append,this]
theorem kY {α:Type}(f:α → List AV){e:Nat}[h:FlT f e]:∀ (xs:List α) (k:Nat),(aA f xs).drop (k * e) = aA f (xs.drop k)
 | [],k => by simp [aA]
 | x :: xs,0 => by simp [aA]
 | x :: xs, k + 1 => by
  have := kY f (e := e) xs k
  simp only [aA,List.flatMap_cons,List.drop_succ_cons] at this ⊢
  rw [show (k + 1) * e = (f x).length + k * e from by rw [h.pf,Nat.add_mul]; omega,← List.drop_drop,List.drop_left,this]
theorem b6 {α:Type}(f:α → List AV) (xs ys:List α):aA f xs ++ aA f ys = aA f (xs ++ ys) := by simp [aA]
theorem vY {α:Type}(f:α → List AV) (x:α):aA f [x] = f x := by simp [aA]
theorem Cj {α:Type}(f:α → List AV){e:Nat}[h:FlT f e] (xs:List α) (k:Nat) (y:α) (hk:k < xs.length):eR (aA f xs) (k * e) (f y) = aA f (xs.set k y):=by
 unfold eR
 rw [eE,h.pf,show k * e + e = (k + 1) * e from by rw [Nat.add_mul]; omega,kY,← vY f y,b6,b6]
 congr 1
 rw [List.set_eq_take_append_cons_drop,if_pos hk]
 simp
abbrev sl {α : Type} (f : α → List AV) (xs : List α) : AV := .imm xs.length (aA f xs)
abbrev iv (n : Int) : AV := .v (.int .i64 n)
abbrev bv (b : Bool) : AV := .v (.bool b)
def cI (n : Int) : List AV := [.v (.int .i64 n)]
def cB (b : Bool) : List AV := [.v (.bool b)]
instance : FlT cI 1:=⟨fun _ => rfl⟩
instance : FlT cB 1:=⟨fun _ => rfl⟩
theorem iM:∀ (xs ys:List AV),bF (xs ++ ys) = (bF xs && bF ys)
 | [],ys => by simp [bF]
 | x :: xs,ys => by simp [bF,iM xs ys,Bool.and_assoc]
theorem nT {α:Type}(f:α → List AV) (h:∀ x,bF (f x) = true):∀ xs,bF (aA f xs) = true
 | [] => rfl
 | x :: xs => by
  have := nT f h xs
  simp only [aA,List.flatMap_cons,iM,h,Bool.true_and] at this ⊢
  exact this
class FE {α : Type} (f : α → List AV) (g : outParam (α → List AV)) : Prop where pf : ∀ x,f x = g x
instance : FE cI (fun n => [.v (.int .i64 n)]):=⟨fun _ => rfl⟩
instance : FE cB (fun n => [.v (.bool n)]):=⟨fun _ => rfl⟩
class Pur (av : List AV) : Prop where pf : bF av = true
instance (n : Int) : Pur (cI n):=⟨rfl⟩
instance (n : Bool) : Pur (cB n):=⟨rfl⟩
instance {α : Type} (f : α → List AV) [h : ∀ x,Pur (f x)] (xs : List α) : Pur (aA f xs):=⟨nT f (fun x => (h x).pf) xs⟩
theorem cR {α:Type}(f:α → List AV) [h:∀ x,Pur (f x)] (xs:List α):(sl f xs).pur = true := by simp only [AV.pur]; exact nT f (fun x => (h x).pf) xs
section
variable {P : Program} {N : Nat} {Q : Exit → AS → Prop} {all : Array Oper} {rest : List Oper} {ts : List (Nat × AV)} {hs : List (Nat × Option (List AV))} {n : Nat} {z0 : Lo} {md : Md}
variable {d : Nat} {ty : TypeId} {pos : String} {af : Array Edge}
theorem F1 {x:Operand}{av:AV}(hx:ev (lk ts) x = some av) (hN:Nat.blt d N = true){md':Md}[hmd:MdA md (rO x) [.inl d] md'] (k:RW P N all Q md' rest ⟨(d,av) :: ts,hs,n,z0⟩):RW P N all Q md (⟨some d,.move x,ty,pos,af,none⟩ :: rest) ⟨ts,hs,n,z0⟩ := Fz hx (dX hN) (by rw [hmd.pf]; exact k)
theorem qH {x:Operand}{av:AV}(hx:ev (lk ts) x = some av) (hN:Nat.blt d N = true){md':Md}[hmd:MdA md (rO x) [.inl d] md'] (k:RW P N all Q md' rest ⟨(d,av) :: ts,hs,n,z0⟩):RW P N all Q md (⟨some d,.assign x,ty,pos,af,none⟩ :: rest) ⟨ts,hs,n,z0⟩ := BI hx (dX hN) (by rw [hmd.pf]; exact k)
theorem HY {op:BinOp}{t t':TypeId}{x y:Operand}{k:IntKind}{m m':Int}{v:Value}(hx:ev (lk ts) x = some (.v (.int k m))) (hy:ev (lk ts) y = some (.v (.int k m')))
  (h : gI op k m m' = some v) (hN : Nat.blt d N = true) {md' : Md} [hmd : MdA md (rO x ++ rO y) [.inl d] md'] (kk : RW P N all Q md' rest ⟨(d,.v v) :: ts,hs,n,z0⟩) : RW P N all Q md (⟨some d,.binOp op t x y t',ty,pos,af,none⟩ :: rest) ⟨ts,hs,n,z0⟩ := fF hx hy (.inl rfl) h (dX hN) (by rw [hmd.pf]; exact kk)
theorem HD {t t':TypeId}{x y:Operand}{m m':Int}(hx:ev (lk ts) x = some (.v (.int .i64 m))) (hy:ev (lk ts) y = some (.v (.int .i64 m')))
  (h : -9223372036854775808 ≤ m + m' ∧ m + m' ≤ 9223372036854775807) (hN : Nat.blt d N = true) {md' : Md} [hmd : MdA md (rO x ++ rO y) [.inl d] md'] (kk : RW P N all Q md' rest ⟨(d,.v (.int .i64 (m + m'))) :: ts,hs,n,z0⟩) : RW P N all Q md (⟨some d,.binOp .add t x y t',ty,pos,af,none⟩ :: rest) ⟨ts,hs,n,z0⟩ := GB hx hy h (dX hN) (by rw [hmd.pf]; exact kk)
theorem HE {t t':TypeId}{x y:Operand}{m m':Int}(hx:ev (lk ts) x = some (.v (.int .i64 m))) (hy:ev (lk ts) y = some (.v (.int .i64 m')))
  (h : -9223372036854775808 ≤ m - m' ∧ m - m' ≤ 9223372036854775807) (hN : Nat.blt d N = true) {md' : Md} [hmd : MdA md (rO x ++ rO y) [.inl d] md'] (kk : RW P N all Q md' rest ⟨(d,.v (.int .i64 (m - m'))) :: ts,hs,n,z0⟩) : RW P N all Q md (⟨some d,.binOp .sub t x y t',ty,pos,af,none⟩ :: rest) ⟨ts,hs,n,z0⟩ := HN hx hy h (dX hN) (by rw [hmd.pf]; exact kk)
theorem HL {t:TypeId}{x:Operand}{b:Bool}(hx:ev (lk ts) x = some (.v (.bool b))) (hN:Nat.blt d N = true){md':Md}[hmd:MdA md (rO x) [.inl d] md'] (kk:RW P N all Q md' rest ⟨(d,.v (.bool !b)) :: ts,hs,n,z0⟩):RW P N all Q md (⟨some d,.unOp .not t x,ty,pos,af,none⟩ :: rest) ⟨ts,hs,n,z0⟩ := GC hx (dX hN) (by rw [hmd.pf]; exact kk)
theorem Hr {x:Operand}{av:AV}(hx:ev (lk ts) x = some av) (hp:Aq av = true) (hN:Nat.blt d N = true){md':Md}[hmd:MdA md (rO x) [.inl d] md'] (kk:RW P N all Q md' rest ⟨(d,av) :: ts,hs,n,z0⟩):RW P N all Q md (⟨some d,.nilCheck x,ty,pos,af,none⟩ :: rest) ⟨ts,hs,n,z0⟩ := Ey hx hp (dX hN) (by rw [hmd.pf]; exact kk)
theorem sH {s:TypeId}{f:Nat}{x:Operand}{av out:AV}{fo ft z:Nat}[hf:FdT P s f fo ft] [hz:SzT P ft (z + 1)] (hx:ev (lk ts) x = some av) (hp:D1 fo av = some out) (hN:Nat.blt d N = true)
  {md' : Md} [hmd : MdA md (rO x) [.inl d] md'] (kk : RW P N all Q md' rest ⟨(d,out) :: ts,hs,n,z0⟩) : RW P N all Q md (⟨some d,.fieldAddr s x f,ty,pos,af,none⟩ :: rest) ⟨ts,hs,n,z0⟩ := tC hx hf.pf hz.pf hp (dX hN) (by rw [hmd.pf]; exact kk)
theorem xE {α:Type}{hα:Inhabited α}{f g:α → List AV}{xs:List α}{t el e m k:Nat}{x i:Operand}{kk0:IntKind}[ht:SlT P t el] [he:SzT P el e] (hx:ev (lk ts) x = some (.imm m (aA f xs)))
  (hi : ev (lk ts) i = some (.v (.int kk0 (k : Int)))) (hm : k < m) (hml : m = xs.length) (hf : FlT f e) (hg : FE f g) (hN : Nat.blt d N = true) {md' : Md} [hmd : MdA md (rO x ++ rO i) [.inl d] md'] (kk : RW P N all Q md' rest ⟨(d,.iptr (g xs[k]! ++ aA f (xs.drop (k + 1)))) :: ts,hs,n,z0⟩) :
  RW P N all Q md (⟨some d,.indexAddr t x i,ty,pos,af,none⟩ :: rest) ⟨ts,hs,n,z0⟩ :=
 fQ hx hi ht.pf he.pf (by simp only [xM]; rw [if_pos (by omega),Int.toNat_natCast,e8 f xs k (by omega),hg.pf]) (dX hN) (by rw [hmd.pf]; exact kk)
theorem BE {α:Type}{hα:Inhabited α}{f g:α → List AV}{xs:List α}{t el e m:Nat}{x i:Operand}{kk0:IntKind}{k:Int}[ht:SlT P t el] [he:SzT P el e] (hx:ev (lk ts) x = some (.imm m (aA f xs)))
  (hi : ev (lk ts) i = some (.v (.int kk0 k))) (hm : 0 ≤ k ∧ k < m) (hml : m = xs.length) (hf : FlT f e) (hg : FE f g) (hN : Nat.blt d N = true) {md' : Md} [hmd : MdA md (rO x ++ rO i) [.inl d] md'] (kk : RW P N all Q md' rest ⟨(d,.iptr (g xs[k.toNat]! ++ aA f (xs.drop (k.toNat + 1)))) :: ts,hs,n,z0⟩) :
  RW P N all Q md (⟨some d,.indexAddr t x i,ty,pos,af,none⟩ :: rest) ⟨ts,hs,n,z0⟩ :=
 fQ hx hi ht.pf he.pf (by simp only [xM]; rw [if_pos hm,e8 f xs k.toNat (by omega),hg.pf]) (dX hN) (by rw [hmd.pf]; exact kk)
theorem xQ {t el e m k id off e':Nat}{x i:Operand}{kk0:IntKind}[ht:SlT P t el] [he:SzT P el e] (hx:ev (lk ts) x = some (.own id off m e'))
  (hi : ev (lk ts) i = some (.v (.int kk0 (k : Int)))) (hm : k < m) (hN : Nat.blt d N = true) {md' : Md} [hmd : MdA md (rO x ++ rO i) [.inl d] md'] (kk : RW P N all Q md' rest ⟨(d,.optr id (off + k * e)) :: ts,hs,n,z0⟩) :
  RW P N all Q md (⟨some d,.indexAddr t x i,ty,pos,af,none⟩ :: rest) ⟨ts,hs,n,z0⟩ :=
 fQ hx hi ht.pf he.pf (by simp only [xM]; rw [if_pos (by omega),Int.toNat_natCast]) (dX hN) (by rw [hmd.pf]; exact kk)
theorem BA {t el e m id off e':Nat}{x i:Operand}{kk0:IntKind}{k:Int}[ht:SlT P t el] [he:SzT P el e] (hx:ev (lk ts) x = some (.own id off m e'))
  (hi : ev (lk ts) i = some (.v (.int kk0 k))) (hm : 0 ≤ k ∧ k < m) (hN : Nat.blt d N = true) {md' : Md} [hmd : MdA md (rO x ++ rO i) [.inl d] md'] (kk : RW P N all Q md' rest ⟨(d,.optr id (off + k.toNat * e)) :: ts,hs,n,z0⟩) :
  RW P N all Q md (⟨some d,.indexAddr t x i,ty,pos,af,none⟩ :: rest) ⟨ts,hs,n,z0⟩ :=
 fQ hx hi ht.pf he.pf (by simp only [xM]; rw [if_pos hm]) (dX hN) (by rw [hmd.pf]; exact kk)
theorem DA {t:TypeId}{x:Operand}{av c:AV}{cs:List AV}[ha:AgT P t false] (hx:ev (lk ts) x = some av)
  (hd : deref (aO hs) av = some cs) (hc : cs[0]? = some c) (hN : Nat.blt d N = true) {md' : Md} [hmd : MdA md (rO x ++ rA av) [.inl d] md'] (kk : RW P N all Q md' rest ⟨(d,c) :: ts,hs,n,z0⟩) : RW P N all Q md (⟨some d,.load t x,ty,pos,af,none⟩ :: rest) ⟨ts,hs,n,z0⟩ := tU hx ha.pf hd hc (dX hN) (by rw [hmd.pf]; exact kk)
theorem CS {t:TypeId}{x:Operand}{av:AV}{z:Nat}{cs cs':List AV}[ha:AgT P t true] [hz:SzT P t z] (hx:ev (lk ts) x = some av)
  (hd : deref (aO hs) av = some cs) (hc : cs.take z = cs') (hn : cs'.length = z) (h0 : Nat.blt 0 z = true) (hN : Nat.blt d N = true) {md' : Md} [hmd : MdA md (rO x ++ rA av) [.inl d] md'] (kk : RW P N all Q md' rest ⟨(d,.agg cs') :: ts,hs,n,z0⟩) :
  RW P N all Q md (⟨some d,.load t x,ty,pos,af,none⟩ :: rest) ⟨ts,hs,n,z0⟩ := oX hx ha.pf hz.pf hd hc hn (by have := dX h0;omega) (dX hN) (by rw [hmd.pf]; exact kk)
theorem GD {t el m:Nat}{x:Operand}{av:AV}{l:List TypeId}[ht:SlT P t el] (hx:ev (lk ts) x = some av)
  (hn : (match sI av with | .own _ _ n _ => some n | .imm n _ => some n | _ => none) = some m) (hN : Nat.blt d N = true) {md' : Md} [hmd : MdA md (rO x) [.inl d] md'] (kk : RW P N all Q md' rest ⟨(d,.v (.int .i64 (m : Int))) :: ts,hs,n,z0⟩) :
  RW P N all Q md (⟨some d,.call ⟨.builtin .len,#[x],(t :: l).toArray⟩,ty,pos,af,none⟩ :: rest) ⟨ts,hs,n,z0⟩ := G8 (by simp) hx ht.pf hn (dX hN) (by rw [hmd.pf]; exact kk)
theorem w8 {x:Operand}{i:Nat}{cs:List AV}{c:AV}(hx:ev (lk ts) x = some (.tup cs)) (hc:cs[i]? = some c) (hN:Nat.blt d N = true){md':Md}[hmd:MdA md (rO x) [.inl d] md'] (kk:RW P N all Q md' rest ⟨(d,c) :: ts,hs,n,z0⟩) :
  RW P N all Q md (⟨some d,.extract x i,ty,pos,af,none⟩ :: rest) ⟨ts,hs,n,z0⟩ := xI hx hc (dX hN) (by rw [hmd.pf]; exact kk)
theorem vM {t:TypeId}{parts:Array (Nat × Operand)}{pl:List (Nat × Nat)}{zs:List Value}{l:List (Nat × AV)}{cs:List AV}[hp:PtT P t pl] [hz:ZrT P t zs]
  (hl : evs (lk ts) parts.toList = some l) (hf : fX (pl[·]?) (zs.map .v) l = some cs) (hN : Nat.blt d N = true) {md' : Md} [hmd : MdA md (Gm parts.toList) [.inl d] md'] (kk : RW P N all Q md' rest ⟨(d,.agg cs) :: ts,hs,n,z0⟩) :
  RW P N all Q md (⟨some d,.build t parts,ty,pos,af,none⟩ :: rest) ⟨ts,hs,n,z0⟩ := DT hp.pf hz.pf hl hf (dX hN) (by rw [hmd.pf]; exact kk)
theorem DM {t:TypeId}{zs:List Value}[hz:ZrT P t zs] (hM:Nat.blt n cW = true) (hN:Nat.blt d N = true){md':Md}[hmd:MdA md ([]) [.inr n,.inl d] md'] (kk:RW P N all Q md' rest ⟨(d,.optr n 0) :: ts,(n,some (zs.map .v)) :: hs,n + 1,z0⟩) :
  RW P N all Q md (⟨some d,.alloc t,ty,pos,af,none⟩ :: rest) ⟨ts,hs,n,z0⟩ := B2 hz.pf hM (dX hN) (by rw [hmd.pf]; exact kk)
theorem GF {t:TypeId}{x:Operand}{av:AV}{cs:List AV}(hx:ev (lk ts) x = some av) (hc:cellsOf av = some cs) (hM:Nat.blt n cW = true) (hN:Nat.blt d N = true){md':Md}[hmd:MdA md (rO x) [.inr n,.inl d] md'] (kk:RW P N all Q md' rest ⟨(d,.optr n 0) :: ts,(n,some cs) :: hs,n + 1,z0⟩) :
  RW P N all Q md (⟨some d,.box t x,ty,pos,af,none⟩ :: rest) ⟨ts,hs,n,z0⟩ := Gz hx hc hM (dX hN) (by rw [hmd.pf]; exact kk)
theorem kK {t el len e:Nat}{parts:Array (Nat × Operand)}{zs:List Value}{l:List (Nat × AV)}{cs:List AV}[ht:SlT P t el] [he:SzT P el e] [hz:ZrT P el zs] (hze:zs.length = e) (hsm:Nat.ble (len * e) 16777216 = true)
  (hl : evs (lk ts) parts.toList = some l) (hfl : fX (fun i => some (i * e,e)) ((List.replicate len (zs.map .v)).flatten) l = some cs) (hM : Nat.blt n cW = true) (hN : Nat.blt d N = true) {md' : Md} [hmd : MdA md (Gm parts.toList) [.inr n,.inl d] md'] (kk : RW P N all Q md' rest ⟨(d,.own n 0 len e) :: ts,(n,some cs) :: hs,n + 1,z0⟩) :
  RW P N all Q md (⟨some d,.buildSlice t len parts,ty,pos,af,none⟩ :: rest) ⟨ts,hs,n,z0⟩ := pY ht.pf he.pf hz.pf hze (by simpa using hsm) hl hfl hM (dX hN) (by rw [hmd.pf]; exact kk)
theorem bC {t:TypeId}{x y:Operand}{id off z:Nat}{av:AV}{cs new cs':List AV}[hz:SzT P t z] (hx:ev (lk ts) x = some (.optr id off)) (hy:ev (lk ts) y = some av)
  (hc : cellsOf av = some new) (hn : new.length = z) (hH : aO hs id = some cs) (hl : off + new.length ≤ cs.length) (hcs : eR cs off new = cs')
  {md' : Md} [hmd : MdA md (rO x ++ (rO y ++ [.inr id])) [.inr id] md'] (kk : RW P N all Q md' rest ⟨ts,(id,some cs') :: hs,n,z0⟩) : RW P N all Q md (⟨none,.store t x y,ty,pos,af,none⟩ :: rest) ⟨ts,hs,n,z0⟩ := CE hx hy hz.pf hc hn hH hl hcs (by rw [hmd.pf]; exact kk)
theorem dH {t el id off m m' e by':Nat}{x y:Operand}{av:AV}{cs new cs':List AV}{zs:List Value}[ht:SlT P t el] [he:SzT P el e] [hb:ByT P el by'] [hz:ZrT P el zs]
  (hx : ev (lk ts) x = some (.own id off m e)) (hy : ev (lk ts) y = some av) (hze : zs.length = e) (he0 : Nat.blt 0 e = true)
  (hH : aO hs id = some cs) (hl : off + m * e ≤ cs.length) (hs' : sCells (aO hs) e (sI av) = some (m',new)) (hbig : (m + m') * by' ≤ 140737488355328) (hmx : m + m' ≤ 9223372036854775807)
  (hcs : (cs.drop off).take (m * e) ++ new = cs') (hM : Nat.blt n cW = true) (hN : Nat.blt d N = true) {md' : Md} [hmd : MdA md (rO x ++ (rO y ++ ([.inr id] ++ rA av))) [.inr id,.inr n,.inl d] md'] (kk : RW P N all Q md' rest ⟨(d,.own n 0 (m + m') e) :: ts,(n,some cs') :: (id,none) :: hs,n + 1,z0⟩) :
  RW P N all Q md (⟨some d,.call ⟨.builtin .append,#[x,y],#[t,t]⟩,ty,pos,af,none⟩ :: rest) ⟨ts,hs,n,z0⟩ := Bv hx hy ht.pf he.pf hb.pf hz.pf hze (dX he0) rfl hH hl hs' hbig hmx hcs hM (dX hN) (by rw [hmd.pf]; exact kk)
theorem aB {k:FuncId}{args:Array Operand}{tys:Array TypeId}{avs:List AV}{r:AV}[hc:CaT P k] (ha:evL (lk ts) args.toList = some avs) (h:PC P k avs (fun x => x = r)) (hp:bF avs = true) (hN:Nat.blt d N = true)
  {md' : Md} [hmd : MdA md (fH args.toList) [.inl d] md'] (kk : RW P N all Q md' rest ⟨(d,r) :: ts,hs,n,z0⟩) : RW P N all Q md (⟨some d,.call ⟨.value (.func k),args,tys⟩,ty,pos,af,none⟩ :: rest) ⟨ts,hs,n,z0⟩ := Dl hc.pf ha h hp (dX hN) (by rw [hmd.pf]; exact kk)
theorem Bj {dst:Option Tmp}{op:Op}{j d:Nat}{want b:Bool}{mdp:Md}[hmp:MdP md (.inl d) mdp] (hj:(all[j]?).bind (·.dst) = some d) (hb:lk ts d = some (.v (.bool b))) (hN:(match dst with | some d => Nat.blt d N | none => true) = true) (hw:b = want)
  (h1 : RW P N all Q mdp (⟨dst,op,ty,pos,af,none⟩ :: rest) ⟨ts,hs,n,z0⟩) : RW P N all Q md (⟨dst,op,ty,pos,af,some (j,want)⟩ :: rest) ⟨ts,hs,n,z0⟩ :=
 nW hj hb (fun d h => by subst h;exact dX hN) (fun _ => hmp.pf ▸ h1) (fun h => by subst hw;cases b <;> simp at h)
theorem Cv {c x y:Operand}{b:Bool}{av:AV}(hc:ev (lk ts) c = some (.v (.bool b))) (hb:b = true) (hx:ev (lk ts) x = some av) (hN:Nat.blt d N = true){md':Md}[hmd:MdA md (rO c ++ rO x) [.inl d] md'] (k:RW P N all Q md' rest ⟨(d,av) :: ts,hs,n,z0⟩) :
  RW P N all Q md (⟨some d,.pick c x y,ty,pos,af,none⟩ :: rest) ⟨ts,hs,n,z0⟩ := BU hc hb hx (dX hN) (by rw [hmd.pf]; exact k)
theorem Eg {c x y:Operand}{b:Bool}{av:AV}(hc:ev (lk ts) c = some (.v (.bool b))) (hb:b = false) (hx:ev (lk ts) y = some av) (hN:Nat.blt d N = true){md':Md}[hmd:MdA md (rO c ++ rO y) [.inl d] md'] (k:RW P N all Q md' rest ⟨(d,av) :: ts,hs,n,z0⟩) :
  RW P N all Q md (⟨some d,.pick c x y,ty,pos,af,none⟩ :: rest) ⟨ts,hs,n,z0⟩ := CD hc hb hx (dX hN) (by rw [hmd.pf]; exact k)
end
section
variable {P : Program} {N : Nat} {Q : Exit → AS → Prop} {K : AS → Prop} {s : AS}
theorem BB (h:K s):oT K Q .normal s := h
theorem HJ (h:Q .ret s):oT K Q .ret s := h
theorem EX {i:Nat}(h:Q (.exit i) s):oT K Q (.exit i) s := h
theorem BC {i:Nat}(h:Q .normal s):xL i Q .normal s := h
theorem Gr {i:Nat}(h:Q .ret s):xL i Q .ret s := h
theorem Fu {i:Nat}(h:Q .normal s):xL i Q (.exit i) s := by simp [xL,h]
theorem aC {res:Array ResultVar}{Q:AV → (Nat → Option (List AV)) → Prop}{l:List AV}(hr:kC P (lk s.ts) (aO s.hs) res.toList = some l) (h:Q (aN l) (aO s.hs)):tB P res Q .ret s :=
 ⟨.inl rfl,s,l,Le.refl _,hr,h⟩
theorem GA {res:Array ResultVar}{Q:AV → (Nat → Option (List AV)) → Prop}{l:List AV}(hr:kC P (lk s.ts) (aO s.hs) res.toList = some l) (h:Q (aN l) (aO s.hs)):tB P res Q .normal s :=
 ⟨.inr rfl,s,l,Le.refl _,hr,h⟩
theorem bD {res:Array ResultVar}{Q:AV → (Nat → Option (List AV)) → Prop}{e:Exit}{s':AS}(hl:Le s s') (h:tB P res Q e s'):tB P res Q e s:=by
 obtain ⟨h1,s2,l,h2,h3,h4⟩ := h
 exact ⟨h1,s2,l,fun C a w g => h2 C a w (hl C a w g),h3,h4⟩
theorem DJ {x y:Code}{c:Operand}{b:Bool}(hc:ev (lk s.ts) c = some (.v (.bool b))) (hb:b = true) (h:AW P N x Q s):AW P N (.cond c x y) Q s := rW hc (fun _ => h) (fun e => by subst hb;cases e)
theorem Dp {x y:Code}{c:Operand}{b:Bool}(hc:ev (lk s.ts) c = some (.v (.bool b))) (hb:b = false) (h:AW P N y Q s):AW P N (.cond c x y) Q s := rW hc (fun e => by subst hb;cases e) (fun _ => h)
end
section
variable {P : Program} {N : Nat} {Q : Exit → AS → Prop} {all : Array Oper} {rest : List Oper} {ts : List (Nat × AV)} {hs : List (Nat × Option (List AV))} {n : Nat} {z0 : Lo} {md : Md}
variable {d : Nat} {ty : TypeId} {pos : String} {af : Array Edge}
theorem Hs {t t':TypeId}{x y:Operand}{k:IntKind}{m m':Int}(hx:ev (lk ts) x = some (.v (.int k m))) (hy:ev (lk ts) y = some (.v (.int k m')))
  (h : 0 ≤ m ∧ 0 < m') (hN : Nat.blt d N = true) {md' : Md} [hmd : MdA md (rO x ++ rO y) [.inl d] md'] (kk : RW P N all Q md' rest ⟨(d,.v (.int k (m % m'))) :: ts,hs,n,z0⟩) : RW P N all Q md (⟨some d,.binOp .rem t x y t',ty,pos,af,none⟩ :: rest) ⟨ts,hs,n,z0⟩ :=
 fF (v := .int k (m % m')) hx hy (.inl rfl) (by simp only [gI]; rw [if_neg (by omega),Int.tmod_eq_emod_of_nonneg h.1]) (dX hN) (by rw [hmd.pf]; exact kk)
theorem HW {t t':TypeId}{x y:Operand}{m m':Int}(hx:ev (lk ts) x = some (.v (.int .i64 m))) (hy:ev (lk ts) y = some (.v (.int .i64 m')))
  (h : 0 ≤ m ∧ 0 < m' ∧ m ≤ 9223372036854775807) (hN : Nat.blt d N = true) {md' : Md} [hmd : MdA md (rO x ++ rO y) [.inl d] md'] (kk : RW P N all Q md' rest ⟨(d,.v (.int .i64 (m / m'))) :: ts,hs,n,z0⟩) : RW P N all Q md (⟨some d,.binOp .quo t x y t',ty,pos,af,none⟩ :: rest) ⟨ts,hs,n,z0⟩ :=
 fF (v := .int .i64 (m / m')) hx hy (.inl rfl) (by
  have h1 : 0 ≤ m / m' := Int.ediv_nonneg h.1 (by omega)
  have h2 : m / m' ≤ m := Int.ediv_le_self _ h.1
  simp only [gI]; rw [if_neg (by omega),Int.tdiv_eq_ediv_of_nonneg h.1,IntWalk.i64_in _ ⟨by omega,by omega⟩]) (dX hN) (by rw [hmd.pf]; exact kk)
theorem r8 {t el e by' m:Nat}{x y:Operand}{zs:List Value}{k k':IntKind}[ht:SlT P t el] [he:SzT P el e] [hb:ByT P el by'] [hz:ZrT P el zs]
  (hx : ev (lk ts) x = some (.v (.int k (m : Int)))) (hy : ev (lk ts) y = some (.v (.int k' (m : Int)))) (hze : zs.length = e) (hsm : by' * m ≤ 281474976710656) (hmx : m ≤ 9223372036854775807)
  (hM : Nat.blt n cW = true) (hN : Nat.blt d N = true) {md' : Md} [hmd : MdA md (rO x ++ rO y) [.inr n,.inl d] md'] (kk : RW P N all Q md' rest ⟨(d,.own n 0 m e) :: ts,(n,some ((List.replicate m (zs.map .v)).flatten)) :: hs,n + 1,z0⟩) :
  RW P N all Q md (⟨some d,.makeSlice t x y,ty,pos,af,none⟩ :: rest) ⟨ts,hs,n,z0⟩ :=
 rZ hx hy ht.pf he.pf hb.pf hz.pf hze hsm hmx hM (dX hN) (by rw [hmd.pf]; exact kk)
theorem hD {t el:TypeId}{x:Operand}{lo hi:Option Operand}{av out:AV}{m e l h:Nat}[ht:SlT P t el] [he:SzT P el e] (hx:ev (lk ts) x = some av) (hn:I9 av = some m)
  (hl : iS (lk ts) lo 0 = some l) (hh : iS (lk ts) hi m = some h) (hp : Iq e l h av = some out) (hN : Nat.blt d N = true) {md' : Md} [hmd : MdA md (rO x ++ (rB lo ++ rB hi)) [.inl d] md'] (kk : RW P N all Q md' rest ⟨(d,out) :: ts,hs,n,z0⟩) :
  RW P N all Q md (⟨some d,.slice t x lo hi none,ty,pos,af,none⟩ :: rest) ⟨ts,hs,n,z0⟩ :=
 BN hx ht.pf he.pf hn hl hh hp (dX hN) (by rw [hmd.pf]; exact kk)
theorem EG {k:FuncId}{args:Array Operand}{tys:Array TypeId}{avs avs2:List AV}{r:AV}[hc:CaT P k] (ha:evL (lk ts) args.toList = some avs) (hl:gP (aO hs) avs = some avs2) (h:PC P k avs2 (fun x => x = r)) (hfr:r.free = true) (hN:Nat.blt d N = true)
  {md' : Md} [hmd : MdA md (fH args.toList ++ rL avs) [.inl d] md'] (kk : RW P N all Q md' rest ⟨(d,r) :: ts,hs,n,z0⟩) : RW P N all Q md (⟨some d,.call ⟨.value (.func k),args,tys⟩,ty,pos,af,none⟩ :: rest) ⟨ts,hs,n,z0⟩ :=
 FP hc.pf ha hl h hfr (dX hN) (by rw [hmd.pf]; exact kk)
end
theorem A9 (m:Int) (h:0 ≤ m ∧ m ≤ 9223372036854775807):(BitVec.ofInt 64 m) = BitVec.ofNat 64 m.toNat:=by
 obtain ⟨k,rfl⟩ := Int.eq_ofNat_of_zero_le h.1
 apply BitVec.eq_of_toInt_eq
 simp [BitVec.toInt_ofInt]
theorem B3 {k:Nat}(h:k < 2 ^ 63):IntKind.i64.wrap (k:Int) = (k:Int) := IntWalk.i64_in _ ⟨by omega,by omega⟩
section
variable {P : Program} {N : Nat} {Q : Exit → AS → Prop} {all : Array Oper} {rest : List Oper} {ts : List (Nat × AV)} {hs : List (Nat × Option (List AV))} {n : Nat} {z0 : Lo} {md : Md}
variable {d : Nat} {ty : TypeId} {pos : String} {af : Array Edge}
theorem wZ {dst:Nat}{op:Op}{j d:Nat}{want b:Bool}{md':Md}[hmd:MdA md [.inl d] [.inl dst] md'] (hj:(all[j]?).bind (·.dst) = some d) (hb:lk ts d = some (.v (.bool b))) (hN:Nat.blt dst N = true) (hw:b = !want)
  (h2 : RW P N all Q md' rest ⟨(dst,.v undef) :: ts,hs,n,z0⟩) : RW P N all Q md (⟨some dst,op,ty,pos,af,some (j,want)⟩ :: rest) ⟨ts,hs,n,z0⟩ :=
 nW hj hb (fun d h => by cases h;exact dX hN) (fun h => by subst hw;cases want <;> simp at h) (fun _ => hmd.pf ▸ h2)
theorem AP {dst:Nat}{op:Op}{j d:Nat}{want b:Bool}{mdp:Md}[hmp:MdP md (.inl d) mdp] {md':Md}[hmd:MdA md [.inl d] [.inl dst] md'] (hj:(all[j]?).bind (·.dst) = some d) (hb:lk ts d = some (.v (.bool b))) (hN:Nat.blt dst N = true)
  (h1 : b = want → RW P N all Q mdp (⟨some dst,op,ty,pos,af,none⟩ :: rest) ⟨ts,hs,n,z0⟩) (h2 : b = (!want) → RW P N all Q md' rest ⟨(dst,.v undef) :: ts,hs,n,z0⟩) : RW P N all Q md (⟨some dst,op,ty,pos,af,some (j,want)⟩ :: rest) ⟨ts,hs,n,z0⟩ :=
 nW hj hb (fun d h => by cases h;exact dX hN) (fun e => hmp.pf ▸ h1 e) (fun e => hmd.pf ▸ h2 e)
end
class PurV (v : AV) : Prop where pf : v.pur = true
instance (x : Value) : PurV (.v x):=⟨rfl⟩
instance (n : Nat) (cs : List AV) [h : Pur cs] : PurV (.imm n cs):=⟨h.pf⟩
instance (cs : List AV) [h : Pur cs] : PurV (.iptr cs):=⟨h.pf⟩
instance (cs : List AV) [h : Pur cs] : PurV (.agg cs):=⟨h.pf⟩
instance (cs : List AV) [h : Pur cs] : PurV (.tup cs):=⟨h.pf⟩
instance : Pur []:=⟨rfl⟩
instance (c : AV) (cs : List AV) [h : PurV c] [h2 : Pur cs] : Pur (c :: cs):=⟨by simp only [bF,h.pf,h2.pf,Bool.and_self]⟩
theorem RnV.purI {ρ:Nat → Option Nat}{v:AV}(h:PurV v):RnV ρ v v := .pur h.pf
theorem RnL.purI {ρ:Nat → Option Nat}{v:List AV}(h:Pur v):RnL ρ v v := .pur h.pf
def mQ (ρ : Nat → Option Nat) (hh : List (Nat × Option (List AV))) : List (Nat × Option (List AV)) → Prop
 | [] => True
 | (_,none) :: l => mQ ρ hh l
 | (i,some cs') :: l => (∃ j cs,ρ j = some i ∧ aO hh j = some cs ∧ RnL ρ cs cs') ∧ mQ ρ hh l
def qE (mp : List Nat) (ws : List (Nat × Option (List AV))) : Bool := mp.all fun i => ws.any fun p => Nat.beq p.1 i
theorem zE {mp:List Nat}{ρ:Nat → Option Nat}{hh ws:List (Nat × Option (List AV))}(h1:qE mp ws = true) (h2:mQ ρ hh ws):WsOk mp ρ hh ws:=by
 refine ⟨fun i hi => ?_,fun i cs' hm => ?_⟩
 ·simp only [qE, List.all_eq_true, List.any_eq_true] at h1
  obtain ⟨⟨j,c⟩,hp,hb⟩ := h1 i hi
  have := Nat.eq_of_beq_eq_true hb
  simp only at this
  subst this
  exact ⟨c,hp⟩
 ·clear h1
  induction ws with
  | nil => simp at hm
  | cons q ws ih =>
   obtain ⟨j,c⟩ := q
   cases c with
   | none =>
    simp only [mQ] at h2
    rcases List.mem_cons.1 hm with e|e
    ·cases e
    ·exact ih h2 e
   | some c =>
    simp only [mQ] at h2
    rcases List.mem_cons.1 hm with e|e
    ·cases e;exact h2.1
    ·exact ih h2.2 e
section
variable {P : Program} {N : Nat} {Q : Exit → AS → Prop} {all : Array Oper} {rest : List Oper} {ts : List (Nat × AV)} {hs : List (Nat × Option (List AV))} {n : Nat} {z0 : Lo} {md : Md}
variable {ty : TypeId} {pos : String} {af : Array Edge}
theorem cE {d:Nat}{k:FuncId}{args:Array Operand}{tys:Array TypeId}{avs avs0:List AV}{H0:List (Nat × Option (List AV))}{rr rr':AV}{hh:List (Nat × Option (List AV))}
  (mp : List Nat) (n1 : Nat) (ws : List (Nat × Option (List AV))) (h : MC P k avs0 H0 mp.length (fun _ : Unit => True) (fun _ => rr) (fun _ => hh)) [hc : CaT P k] (ha : evL (lk ts) args.toList = some avs) (hd : distinct mp = true)
  (hH0 : pB hs H0 mp 0 mp) (hk : kT mp.length H0 = true) (har : RnL (mp[·]?) avs0 avs) (hM : Nat.ble (n + (n1 - mp.length)) cW = true)
  (hr : RnV (tR mp n n1) rr rr') (hwa : qE mp ws = true) (hw : mQ (tR mp n n1) hh ws) (hN : Nat.blt d N = true)
  {md' : Md} [hmd : MdA md (fH args.toList ++ mp.map .inr) (ws.map (fun p => .inr p.1) ++ [.inl d]) md']
  (kk : RW P N all Q md' rest ⟨(d,rr') :: ts,gH hs ws,n + (n1 - mp.length),z0⟩) : RW P N all Q md (⟨some d,.call ⟨.value (.func k),args,tys⟩,ty,pos,af,none⟩ :: rest) ⟨ts,hs,n,z0⟩ :=
 Az mp n1 hc.pf ha h hd hH0 hk har hM hr (zE hwa hw) (fun x e => by cases e;exact dX hN) (by simp only [wD]; rw [hmd.pf]; exact kk)
end
theorem FH {α:Type}[Inhabited α] {f g:α → List AV}{e:Nat}[h:FlT f e] [hg:FE f g] {xs:List α}{k j:Nat}{c:AV}(hk:k < xs.length) (hc:(g xs[k]!)[j]? = some c):((aA f xs).drop (0 + k * e + j))[0]? = some c:=by
 rw [Nat.zero_add,← List.drop_drop,e8 f xs k hk]
 rw [← hg.pf] at hc
 have hj : j < (f xs[k]!).length := by
  rcases Nat.lt_or_ge j (f xs[k]!).length with q|q
  ·exact q
  ·rw [List.getElem?_eq_none q] at hc;cases hc
 rw [List.drop_append_of_le_length (Nat.le_of_lt hj),List.getElem?_append_left (by rw [List.length_drop]; omega),List.getElem?_drop,Nat.add_zero]
 exact hc
section
variable {P : Program} {N : Nat} {Q : Exit → AS → Prop} {all : Array Oper} {rest : List Oper} {ts : List (Nat × AV)} {hs : List (Nat × Option (List AV))} {n : Nat} {z0 : Lo} {md : Md}
variable {d : Nat} {ty : TypeId} {pos : String} {af : Array Edge}
theorem mD {α:Type}{hα:Inhabited α}{f g:α → List AV}{xs:List α}{e id k j:Nat}{t:TypeId}{x:Operand}{c:AV}[ha:AgT P t false] (hx:ev (lk ts) x = some (.optr id (0 + k * e + j)))
  (hH : aO hs id = some (aA f xs)) (hf : FlT f e) (hg : FE f g) (hk : k < xs.length) (hc : (g xs[k]!)[j]? = some c) (hN : Nat.blt d N = true) {md' : Md} [hmd : MdA md (rO x ++ rA (.optr id (0 + k * e + j))) [.inl d] md']
  (kk : RW P N all Q md' rest ⟨(d,c) :: ts,hs,n,z0⟩) : RW P N all Q md (⟨some d,.load t x,ty,pos,af,none⟩ :: rest) ⟨ts,hs,n,z0⟩ :=
 tU (cs := (aA f xs).drop (0 + k * e + j)) hx ha.pf (by simp only [deref,hH,Option.map_some]) (FH hk hc) (dX hN) (by rw [hmd.pf]; exact kk)
theorem AX {α:Type}{hα:Inhabited α}{f g:α → List AV}{xs:List α}{e id k:Nat}{t:TypeId}{x:Operand}[ha:AgT P t true] [hz:SzT P t e] (hx:ev (lk ts) x = some (.optr id (0 + k * e)))
  (hH : aO hs id = some (aA f xs)) (hf : FlT f e) (hg : FE f g) (hk : k < xs.length) (h0 : Nat.blt 0 e = true) (hN : Nat.blt d N = true) {md' : Md} [hmd : MdA md (rO x ++ rA (.optr id (0 + k * e))) [.inl d] md']
  (kk : RW P N all Q md' rest ⟨(d,.agg (g xs[k]!)) :: ts,hs,n,z0⟩) : RW P N all Q md (⟨some d,.load t x,ty,pos,af,none⟩ :: rest) ⟨ts,hs,n,z0⟩ :=
 oX (cs := (aA f xs).drop (0 + k * e)) hx ha.pf hz.pf (by simp only [deref,hH,Option.map_some]) (cs' := g xs[k]!) (by rw [Nat.zero_add,e8 f xs k hk,← hg.pf]; exact List.take_left' (hf.pf _)) (by rw [← hg.pf]; exact hf.pf _) (by have := dX h0;omega) (dX hN) (by rw [hmd.pf]; exact kk)
end
theorem wI {w:World}{bad:Nat → Prop}{ι:Pl}{n k:Nat}{cs:List AV}{y:Value}(h:Rd w bad ι (.imm n cs) y):Rd w bad ι (.imm n (cs.take k)) y:=by
 simp only [Rd] at h ⊢
 obtain ⟨a,c,rfl,h⟩ := h
 refine ⟨a,c,rfl,?_⟩
 rcases h with h | ⟨b,o,hn,rfl,h⟩
 ·exact .inl h
 ·refine .inr ⟨b, o, hn, rfl, ?_⟩
  rcases h with h | ⟨hb,h⟩
  ·subst h;exact .inl (by simp)
  ·exact .inr ⟨hb,RdC.take k h⟩
section
variable {P : Program} {N : Nat} {Q : Exit → AS → Prop} {all : Array Oper} {rest : List Oper} {ts : List (Nat × AV)} {hs : List (Nat × Option (List AV))} {n : Nat} {z0 : Lo} {md : Md}
variable {d : Nat} {ty : TypeId} {pos : String} {af : Array Edge}
theorem BH {α:Type}{f:α → List AV}{xs:List α}{t el:TypeId}{x:Operand}{lo hi:Option Operand}{e l h:Nat}[ht:SlT P t el] [he:SzT P el e] (hx:ev (lk ts) x = some (sl f xs)) (hf:FlT f e)
  (hl : iS (lk ts) lo 0 = some l) (hh : iS (lk ts) hi xs.length = some h) (hb : l ≤ h ∧ h ≤ xs.length) (hN : Nat.blt d N = true) {md' : Md} [hmd : MdA md (rO x ++ (rB lo ++ rB hi)) [.inl d] md']
  (kk : RW P N all Q md' rest ⟨(d,sl f ((xs.drop l).take (h - l))) :: ts,hs,n,z0⟩) : RW P N all Q md (⟨some d,.slice t x lo hi none,ty,pos,af,none⟩ :: rest) ⟨ts,hs,n,z0⟩ := by
 refine eX (rs := rO x ++ (rB lo ++ rB hi)) (out := sl f ((xs.drop l).take (h - l))) rfl rfl (dX hN) (fun C ι F T H a w ag g gh => ?_) (by rw [hmd.pf]; exact kk)
 obtain ⟨y,h1,h2⟩ := vJ (P := P) (o := ⟨some d,.slice t x lo hi none,ty,pos,af,none⟩) (out := .imm (h - l) ((aA f xs).drop (l * e))) g rfl (ag.l.ev.trans hx) ht.pf he.pf rfl (ag.r.l.bnd.trans hl) (ag.r.r.bnd.trans hh) (by simp only [Iq]; rw [if_pos hb])
 refine ⟨y,h1,?_⟩
 have hlen : ((xs.drop l).take (h - l)).length = h - l := by rw [List.length_take,List.length_drop]; omega
 show Rd w _ ι (.imm ((xs.drop l).take (h - l)).length (aA f ((xs.drop l).take (h - l)))) y
 rw [hlen,← eE f,← kY f]
 exact wI h2
end
theorem zV {w:World}{bad:Nat → Prop}{ι:Pl}:∀ {cs:List AV}{l:List Value},RdL w bad ι cs l → RdL w bad ι (cs.map sI) l
 | [],l,h => by simpa only [RdL,List.map_nil] using h
 | c :: cs, l, h => by
  simp only [RdL,List.map_cons] at h ⊢
  obtain ⟨x,l',h0,h1,h2,h3⟩ := h
  exact ⟨x,l',h0,h1,kN h2,zV h3⟩
section
variable {P : Program} {N : Nat} {Q : Exit → AS → Prop} {all : Array Oper} {rest : List Oper} {ts : List (Nat × AV)} {hs : List (Nat × Option (List AV))} {n : Nat} {z0 : Lo} {md : Md}
variable {d : Nat} {ty : TypeId} {pos : String} {af : Array Edge}
theorem Bz {t:TypeId}{parts:Array (Nat × Operand)}{pl:List (Nat × Nat)}{zs:List Value}{l:List (Nat × AV)}{cs cs':List AV}[hp:PtT P t pl] [hz:ZrT P t zs]
  (hl : evs (lk ts) parts.toList = some l) (hf : fX (pl[·]?) (zs.map .v) l = some cs) (hk : cs.map sI = cs') (hN : Nat.blt d N = true) {md' : Md} [hmd : MdA md (Gm parts.toList) [.inl d] md'] (kk : RW P N all Q md' rest ⟨(d,.agg cs') :: ts,hs,n,z0⟩) :
  RW P N all Q md (⟨some d,.build t parts,ty,pos,af,none⟩ :: rest) ⟨ts,hs,n,z0⟩ := by
 subst hk
 refine eX (rs := Gm parts.toList) (out := .agg (cs.map sI)) rfl rfl (dX hN) (fun C ι F T H a w ag g gh => ?_) (by rw [hmd.pf]; exact kk)
 obtain ⟨y,h1,h2⟩ := uR (P := P) (o := ⟨some d,.build t parts,ty,pos,af,none⟩) g rfl hp.pf hz.pf (ag.evs.trans hl) hf
 refine ⟨y,h1,?_⟩
 simp only [Rd] at h2 ⊢
 obtain ⟨l',h3,h4⟩ := h2
 exact ⟨l',h3,zV h4⟩
end
theorem DK {σ:Type}{P:Program}{k:FuncId}{fn:Func}{c:Code}{args:List AV}{H0:List (Nat × Option (List AV))}{n:Nat}{p:σ → Prop}{rr:σ → AV}{hh:σ → List (Nat × Option (List AV))}(hf:P.funcs[k]? = some fn) (hb:fn.body = some c)
  (hN : args.length ≤ fn.ntmps) (h : AW P fn.ntmps c (tB P fn.results (fun r H' => ∃ x,p x ∧ r = rr x ∧ ∀ id cs,aO (hh x) id = some cs → H' id = some cs)) ⟨dY 0 args,H0,n,⟨n,cW⟩⟩) : MC P k args H0 n p rr hh :=
 lF hf hb hN h
theorem aQ {σ:Type}{s:AS}{r:AV}{p:σ → Prop}{rr:σ → AV}{hh:σ → List (Nat × Option (List AV))}(x:σ) (hp:p x) (hr:r = rr x) (hh':l8 s.hs (hh x)):∃ x,p x ∧ r = rr x ∧ ∀ id cs,aO (hh x) id = some cs → aO s.hs id = some cs :=
 ⟨x,hp,hr,tA hh'⟩
def uX : List (Nat × Nat) → Nat → Option Nat
 | [],_ => none
 | (t,v) :: l,u => cond (Nat.beq u t) (some v) (uX l u)
theorem Dr (t v:Nat) (l:List (Nat × Nat)) (u:Nat):uX ((t,v) :: l) u = if u = t then some v else uX l u:=by
 simp only [uX]
 by_cases h : u = t
 ·subst h;simp
 ·rw [if_neg h]
  have : Nat.beq u t = false := by
   cases hb : Nat.beq u t with
   | false => rfl
   | true => exact absurd (Nat.eq_of_beq_eq_true hb) h
  rw [this]; rfl
def l0 (m : List (Nat × Nat)) (lo : Lo) (id : Nat) : Option Nat := if id < lo.lo then some id else match uX m id with
 | some j => some j
 | none => if cW ≤ id ∧ id < lo.fb then some id else none
def FV (m : List (Nat × Nat)) (lo : Lo) : AV → Option AV
 | .own id o n e => (l0 m lo id).map fun j => .own j o n e
 | .optr id o => (l0 m lo id).map fun j => .optr j o
 | _ => none
def p7 (m : List (Nat × Nat)) (lo : Lo) (v v0 : AV) : Prop := (v0 = v ∧ v.pur = true) ∨ FV m lo v = some v0
inductive All2 {α β : Type} (R : α → β → Prop) : List α → List β → Prop
 | nil : All2 R [] []
 | cons {a b l l'} : R a b → All2 R l l' → All2 R (a :: l) (b :: l')
theorem All2.len {α β:Type}{R:α → β → Prop}{l:List α}{l':List β}(h:All2 R l l'):l.length = l'.length:=by
 induction h with
 | nil => rfl
 | cons _ _ ih => simp [ih]
def F6 (m : List (Nat × Nat)) (lo : Lo) (cs cs0 : List AV) : Prop := (cs0 = cs ∧ bF cs = true) ∨ All2 (p7 m lo) cs cs0
def DN (m : List (Nat × Nat)) (lo : Lo) (l : List (Nat × AV)) : List (Nat × AV) → Prop
 | [] => True
 | (t,v) :: l' => (∃ v0,lk l t = some v0 ∧ p7 m lo v v0) ∧ DN m lo l l'
def uS (m : List (Nat × Nat)) (lo : Lo) (l : List (Nat × Option (List AV))) : List (Nat × Option (List AV)) → Prop
 | [] => True
 | (t,none) :: l' => uS m lo l l'
 | (t,some cs) :: l' => (∃ j cs0,l0 m lo t = some j ∧ aO l j = some cs0 ∧ F6 m lo cs cs0) ∧ uS m lo l l'
theorem Ai {m:List (Nat × Nat)}{lo:Lo}{l:List (Nat × AV)}:∀ {l':List (Nat × AV)},DN m lo l l' → ∀ t v,lk l' t = some v → ∃ v0,lk l t = some v0 ∧ p7 m lo v v0
 | [],_,t,v,h => by simp [lk] at h
 | (u, x) :: l', hr, t, v, h => by
  simp only [DN] at hr
  simp only [kI] at h
  split at h
  ·rename_i e;subst e;cases h;exact hr.1
  ·exact Ai hr.2 t v h
theorem fG {m:List (Nat × Nat)}{lo:Lo}{l:List (Nat × Option (List AV))}:∀ {l':List (Nat × Option (List AV))},uS m lo l l' → ∀ t cs,aO l' t = some cs →
  ∃ j cs0,l0 m lo t = some j ∧ aO l j = some cs0 ∧ F6 m lo cs cs0
 | [],_,t,v,h => by simp [aO] at h
 | (u, none) :: l', hr, t, v, h => by
  simp only [uS] at hr
  simp only [dS] at h
  split at h
  ·cases h
  ·exact fG hr t v h
 | (u, some x) :: l', hr, t, v, h => by
  simp only [uS] at hr
  simp only [dS] at h
  split at h
  ·rename_i e;subst e;cases h;exact hr.1
  ·exact fG hr.2 t v h
def Gk (lo n' : Nat) : List (Nat × Nat) → Bool
 | [] => true
 | (a,b) :: l => Nat.ble lo a && Nat.blt a n' && (Nat.ble lo b && (Nat.blt a cW && Nat.blt b cW)) && l.all (fun p => !Nat.beq p.1 a && !Nat.beq p.2 b) && Gk lo n' l
theorem dQ {lo n':Nat}:∀ {m:List (Nat × Nat)},Gk lo n' m = true → ∀ a b,uX m a = some b → lo ≤ a ∧ a < n' ∧ lo ≤ b ∧ a < cW ∧ b < cW
 | [],_,a,b,h => by simp [uX] at h
 | (u, v) :: l, hk, a, b, h => by
  simp only [Gk,Bool.and_eq_true] at hk
  obtain ⟨⟨⟨⟨h1,h2⟩,h3⟩,_⟩,h5⟩ := hk
  simp only [Dr] at h
  split at h
  ·rename_i e
   subst e;cases h
   have q1 := Nat.le_of_ble_eq_true h1
   have q2 := dX h2
   have q3 := Nat.le_of_ble_eq_true h3.1
   exact ⟨q1,q2,q3,dX h3.2.1,dX h3.2.2⟩
  ·exact dQ h5 a b h
theorem zY:∀ {m:List (Nat × Nat)}{a b:Nat},uX m a = some b → (a,b) ∈ m
 | [],a,b,h => by simp [uX] at h
 | (u, v) :: l, a, b, h => by
  simp only [Dr] at h
  split at h
  ·rename_i e;subst e;cases h;simp
  ·exact List.mem_cons_of_mem _ (zY h)
theorem tG {lo n':Nat}:∀ {m:List (Nat × Nat)},Gk lo n' m = true → ∀ a a' b,uX m a = some b → uX m a' = some b → a = a'
 | [],_,a,a',b,h,_ => by simp [uX] at h
 | (u, v) :: l, hk, a, a', b, h, h' => by
  simp only [Gk,Bool.and_eq_true] at hk
  obtain ⟨⟨_,h4⟩,h5⟩ := hk
  have key : ∀ x, uX l x = some v → False := by
   intro x hx
   have hm := zY hx
   rw [List.all_eq_true] at h4
   have := h4 _ hm
   simp at this
  simp only [Dr] at h h'
  split at h
  ·rename_i e
   split at h'
   ·rename_i e'; omega
   ·cases h;exact (key _ h').elim
  ·split at h'
   ·cases h'; exact (key _ h).elim
   ·exact tG h5 a a' b h h'
theorem Le.ren (m:List (Nat × Nat)){ts ts':List (Nat × AV)}{hs hs':List (Nat × Option (List AV))}{n n':Nat}{lo:Lo}(hm:Gk lo.lo n' m = true) (hn:lo.lo ≤ n') (h1:DN m lo ts ts') (h2:uS m lo hs hs') :
  Le ⟨ts,hs,n,lo⟩ ⟨ts',hs',n',lo⟩ := by
 rintro C a w ⟨h0,ι,g,gh⟩
 let ι' : Pl := fun id => match l0 m lo id with|some j => ι j|none => none
 have hlow : ∀ id,id < lo.lo → ι' id = ι id := fun id h => by simp [ι',l0,h]
 have hto : ∀ id j, l0 m lo id = some j → ι' id = ι j := by
  intro id j h
  simp only [ι',h]
 have hcs0 : ∀ a b, l0 m lo a = some b → (a < lo.lo ∧ b = a) ∨ (lo.lo ≤ a ∧ uX m a = some b) ∨ (lo.lo ≤ a ∧ (cW ≤ a ∧ a < lo.fb) ∧ b = a) := by
  intro a b q
  unfold l0 at q
  split at q
  ·rename_i h;cases q;exact .inl ⟨h,rfl⟩
  ·rename_i h
   split at q
   ·rename_i j hj;cases q;exact .inr (.inl ⟨by omega,hj⟩)
   ·split at q
    ·rename_i h3;cases q;exact .inr (.inr ⟨by omega,h3,rfl⟩)
    ·cases q
 have hinj : ∀ a a' b, l0 m lo a = some b → l0 m lo a' = some b → a = a' := by
  intro a a' b q q'
  rcases hcs0 a b q with ⟨e1,e2⟩ | ⟨e1,e2⟩ | ⟨e1,e2,e3⟩ <;> rcases hcs0 a' b q' with ⟨f1,f2⟩ | ⟨f1,f2⟩ | ⟨f1,f2,f3⟩
  ·omega
  ·have := dQ hm _ _ f2;omega
  ·omega
  ·have := dQ hm _ _ e2;omega
  ·exact tG hm _ _ _ e2 f2
  ·have := dQ hm _ _ e2;omega
  ·omega
  ·have := dQ hm _ _ f2;omega
  ·omega
 have hbad : ∀ b, aH C.X ι' (aO hs') b → aH C.X ι (aO hs) b := by
  rintro b (h | ⟨id,cs,β,q1,q2⟩)
  ·exact .inl h
  ·obtain ⟨j, cs0, q3, q4, _⟩ := fG h2 id cs q1
   rw [hto _ _ q3] at q2
   exact .inr ⟨j,cs0,β,q4,q2⟩
 have hc0 : Carry w (aH C.X ι (aO hs)) ι w (aH C.X ι' (aO hs')) ι := ⟨fun b o x q1 q2 => ⟨fun h => q1 (hbad b h),q2⟩,fun _ _ h => h,fun _ => Nat.le_refl _⟩
 have hv : ∀ v v0 y, p7 m lo v v0 → Rd w (aH C.X ι (aO hs)) ι v0 y → Rd w (aH C.X ι' (aO hs')) ι' v y := by
  intro v v0 y hr hy
  rcases hr with ⟨rfl,hp⟩|hr
  ·exact Rd.pur _ y hp (Rd.carry hc0 _ _ hy)
  ·cases v <;> simp only [FV] at hr <;> first | (cases hr; done) | skip
   ·rename_i id o k e
    cases hj : l0 m lo id with
    | none => simp [hj] at hr
    | some j =>
     simp only [hj,Option.map_some,Option.some.injEq] at hr
     subst hr
     simp only [Rd,hto _ _ hj] at hy ⊢
     exact hy
   ·rename_i id o
    cases hj : l0 m lo id with
    | none => simp [hj] at hr
    | some j =>
     simp only [hj,Option.map_some,Option.some.injEq] at hr
     subst hr
     simp only [Rd,hto _ _ hj] at hy ⊢
     exact hy
 have hcs : ∀ cs cs0 b o, F6 m lo cs cs0 → RdC w (aH C.X ι (aO hs)) ι cs0 b o → RdC w (aH C.X ι' (aO hs')) ι' cs b o := by
  intro cs cs0 b o hr hy
  rcases hr with ⟨rfl,hp⟩|hf
  ·exact RdC.pur _ b o hp (RdC.carryB hc0 _ _ _ (fun o x hx => hx) hy)
  ·induction hf generalizing o with
   | nil => simp only [RdC]
   | cons h1 _ ih =>
    simp only [RdC] at hy ⊢
    obtain ⟨⟨x,q1,q2,q3⟩,q4⟩ := hy
    exact ⟨⟨x,q1,q2,hv _ _ _ h1 q3⟩,ih _ q4⟩
 refine ⟨h0,ι',⟨g.df,g.sz,fun t v ht => ?_⟩,⟨fun id cs h => ?_,fun id id' cs cs' b β β' q1 q2 q3 q4 => ?_,gh.fr,fun id p hp => ?_,fun id hid => ?_⟩⟩
 ·obtain ⟨v0, q1, q2⟩ := Ai h1 t v ht
  obtain ⟨y,q3,q4⟩ := g.tm t v0 q1
  exact ⟨y,q3,hv _ _ _ q2 q4⟩
 ·obtain ⟨j, cs0, q3, q4, q5⟩ := fG h2 id cs h
  have hlen : cs.length = cs0.length := by
   rcases q5 with ⟨rfl,_⟩|hf
   ·rfl
   ·exact hf.len
  rcases gh.obj j cs0 q4 with ⟨p1,p2⟩ | ⟨b,β,arr,e,p1,p2,p3,p4,p5,p6⟩
  ·refine .inl ⟨by rw [hto _ _ q3]; exact p1, ?_⟩
   subst p2;exact List.eq_nil_of_length_eq_zero hlen
  ·exact .inr ⟨b,β,arr,e,by rw [hto _ _ q3]; exact p1,p2,by rw [hlen]; exact p3,hcs _ _ _ _ q5 p4,p5,p6⟩
 ·obtain ⟨j, c1, r1, r2, _⟩ := fG h2 id cs q1
  obtain ⟨j',c2,r3,r4,_⟩ := fG h2 id' cs' q2
  rw [hto _ _ r1] at q3
  rw [hto _ _ r3] at q4
  have := gh.sep _ _ _ _ _ _ _ r2 r4 q3 q4
  subst this
  exact hinj _ _ _ r1 r3
 ·have hl : id < lo.lo ∨ (lo.lo ≤ id ∧ cW ≤ id ∧ id < lo.fb) := by
   rcases Nat.lt_or_ge id lo.lo with h|h
   ·exact .inl h
   ·rcases h0 id h with h1 | h1
    ·exact .inr ⟨h,h1⟩
    ·rw [h1] at hp;cases hp
  rcases hl with hl | ⟨hl,h1,h2⟩
  ·rw [hlow id hl]; exact gh.ex id p hp
  ·have : l0 m lo id = some id := by
    unfold l0
    rw [if_neg (by omega)]
    cases hj : uX m id with
    | some j => have := dQ hm _ _ hj;omega
    | none => simp [h1,h2]
   rw [hto _ _ this]; exact gh.ex id p hp
 ·show ι' id = none
  simp only [ι']
  cases hj : l0 m lo id with
  | none => rfl
  | some j =>
   have h3 : n' ≤ id := hid.1
   have h4 : id < cW ∨ lo.fb ≤ id := hid.2
   rcases hcs0 id j hj with ⟨e1,e2⟩ | ⟨e1,e2⟩ | ⟨e1,e2,e3⟩
   ·omega
   ·have := dQ hm _ _ e2;omega
   ·omega
end Go.AL
namespace Go.Proofs.YtgkalkgplcdnkaaGreat
open Go.AL
instance : SzT Tryz.prog 3 1:=⟨by kernel_rfl⟩
instance : ByT Tryz.prog 3 8:=⟨by kernel_rfl⟩
instance : AgT Tryz.prog 3 false:=⟨by kernel_rfl⟩
instance : ZrT Tryz.prog 3 [.int .i64 0]:=⟨by kernel_rfl⟩
instance : SzT Tryz.prog 4 1:=⟨by kernel_rfl⟩
instance : ByT Tryz.prog 4 1:=⟨by kernel_rfl⟩
instance : AgT Tryz.prog 4 false:=⟨by kernel_rfl⟩
instance : ZrT Tryz.prog 4 [.bool false]:=⟨by kernel_rfl⟩
instance : SzT Tryz.prog 22 1:=⟨by kernel_rfl⟩
instance : AgT Tryz.prog 22 false:=⟨by kernel_rfl⟩
instance : SlT Tryz.prog 22 3:=⟨by kernel_rfl⟩
instance : ZrT Tryz.prog 22 [.slice none 0 0]:=⟨by kernel_rfl⟩
instance : SzT Tryz.prog 23 1:=⟨by kernel_rfl⟩
instance : AgT Tryz.prog 23 false:=⟨by kernel_rfl⟩
instance : SlT Tryz.prog 23 100:=⟨by kernel_rfl⟩
instance : SzT Tryz.prog 25 2:=⟨by kernel_rfl⟩
instance : AgT Tryz.prog 25 true:=⟨by kernel_rfl⟩
instance : FdT Tryz.prog 25 0 0 22:=⟨by kernel_rfl⟩
instance : FdT Tryz.prog 25 1 1 23:=⟨by kernel_rfl⟩
instance : SzT Tryz.prog 28 1:=⟨by kernel_rfl⟩
instance : AgT Tryz.prog 28 false:=⟨by kernel_rfl⟩
instance : SlT Tryz.prog 28 76:=⟨by kernel_rfl⟩
instance : SzT Tryz.prog 30 2:=⟨by kernel_rfl⟩
instance : AgT Tryz.prog 30 true:=⟨by kernel_rfl⟩
instance : FdT Tryz.prog 30 0 0 22:=⟨by kernel_rfl⟩
instance : FdT Tryz.prog 30 1 1 28:=⟨by kernel_rfl⟩
instance : ZrT Tryz.prog 30 [.slice none 0 0,.slice none 0 0]:=⟨by kernel_rfl⟩
instance : SlT Tryz.prog 52 4:=⟨by kernel_rfl⟩
instance : SzT Tryz.prog 53 1:=⟨by kernel_rfl⟩
instance : AgT Tryz.prog 53 false:=⟨by kernel_rfl⟩
instance : SlT Tryz.prog 53 103:=⟨by kernel_rfl⟩
instance : SzT Tryz.prog 76 6:=⟨by kernel_rfl⟩
instance : ByT Tryz.prog 76 80:=⟨by kernel_rfl⟩
instance : AgT Tryz.prog 76 true:=⟨by kernel_rfl⟩
instance : FdT Tryz.prog 76 0 0 3:=⟨by kernel_rfl⟩
instance : FdT Tryz.prog 76 1 1 3:=⟨by kernel_rfl⟩
instance : FdT Tryz.prog 76 2 2 3:=⟨by kernel_rfl⟩
instance : FdT Tryz.prog 76 3 3 3:=⟨by kernel_rfl⟩
instance : FdT Tryz.prog 76 4 4 28:=⟨by kernel_rfl⟩
instance : FdT Tryz.prog 76 5 5 28:=⟨by kernel_rfl⟩
instance : ZrT Tryz.prog 76 [.int .i64 0,.int .i64 0,.int .i64 0,.int .i64 0,.slice none 0 0,.slice none 0 0]:=⟨by kernel_rfl⟩
instance : SzT Tryz.prog 88 1:=⟨by kernel_rfl⟩
instance : AgT Tryz.prog 88 false:=⟨by kernel_rfl⟩
instance : SzT Tryz.prog 100 6:=⟨by kernel_rfl⟩
instance : AgT Tryz.prog 100 true:=⟨by kernel_rfl⟩
instance : FdT Tryz.prog 100 0 0 3:=⟨by kernel_rfl⟩
instance : FdT Tryz.prog 100 1 1 3:=⟨by kernel_rfl⟩
instance : FdT Tryz.prog 100 2 2 3:=⟨by kernel_rfl⟩
instance : FdT Tryz.prog 100 3 3 3:=⟨by kernel_rfl⟩
instance : FdT Tryz.prog 100 4 4 23:=⟨by kernel_rfl⟩
instance : FdT Tryz.prog 100 5 5 23:=⟨by kernel_rfl⟩
instance : SzT Tryz.prog 103 5:=⟨by kernel_rfl⟩
instance : ByT Tryz.prog 103 56:=⟨by kernel_rfl⟩
instance : AgT Tryz.prog 103 true:=⟨by kernel_rfl⟩
instance : FdT Tryz.prog 103 0 0 3:=⟨by kernel_rfl⟩
instance : FdT Tryz.prog 103 1 1 3:=⟨by kernel_rfl⟩
instance : FdT Tryz.prog 103 2 2 3:=⟨by kernel_rfl⟩
instance : FdT Tryz.prog 103 3 3 3:=⟨by kernel_rfl⟩
instance : FdT Tryz.prog 103 4 4 22:=⟨by kernel_rfl⟩
instance : PtT Tryz.prog 103 [(0,1),(1,1),(2,1),(3,1),(4,1)]:=⟨by kernel_rfl⟩
instance : ZrT Tryz.prog 103 [.int .i64 0,.int .i64 0,.int .i64 0,.int .i64 0,.slice none 0 0]:=⟨by kernel_rfl⟩
instance : FdT Tryz.prog 134 0 0 30:=⟨by kernel_rfl⟩
instance : FdT Tryz.prog 134 1 2 53:=⟨by kernel_rfl⟩
instance : PtT Tryz.prog 134 [(0,2),(2,1)]:=⟨by kernel_rfl⟩
instance : ZrT Tryz.prog 134 [.slice none 0 0,.slice none 0 0,.slice none 0 0]:=⟨by kernel_rfl⟩
instance : SzT Tryz.prog 148 1:=⟨by kernel_rfl⟩
instance : AgT Tryz.prog 148 false:=⟨by kernel_rfl⟩
instance : SlT Tryz.prog 148 217:=⟨by kernel_rfl⟩
instance : SzT Tryz.prog 149 1:=⟨by kernel_rfl⟩
instance : AgT Tryz.prog 149 false:=⟨by kernel_rfl⟩
instance : SlT Tryz.prog 149 234:=⟨by kernel_rfl⟩
instance : SzT Tryz.prog 151 3:=⟨by kernel_rfl⟩
instance : AgT Tryz.prog 151 true:=⟨by kernel_rfl⟩
instance : FdT Tryz.prog 151 0 0 148:=⟨by kernel_rfl⟩
instance : FdT Tryz.prog 151 1 1 149:=⟨by kernel_rfl⟩
instance : FdT Tryz.prog 151 2 2 22:=⟨by kernel_rfl⟩
instance : PtT Tryz.prog 151 [(0,1),(1,1),(2,1)]:=⟨by kernel_rfl⟩
instance : ZrT Tryz.prog 151 [.slice none 0 0,.slice none 0 0,.slice none 0 0]:=⟨by kernel_rfl⟩
instance : FdT Tryz.prog 193 0 0 88:=⟨by kernel_rfl⟩
instance : FdT Tryz.prog 193 1 1 148:=⟨by kernel_rfl⟩
instance : FdT Tryz.prog 193 2 2 149:=⟨by kernel_rfl⟩
instance : FdT Tryz.prog 193 3 3 22:=⟨by kernel_rfl⟩
instance : PtT Tryz.prog 193 [(0,1),(1,1),(2,1),(3,1)]:=⟨by kernel_rfl⟩
instance : ZrT Tryz.prog 193 [.pointer none,.slice none 0 0,.slice none 0 0,.slice none 0 0]:=⟨by kernel_rfl⟩
instance : SzT Tryz.prog 215 2:=⟨by kernel_rfl⟩
instance : AgT Tryz.prog 215 true:=⟨by kernel_rfl⟩
instance : FdT Tryz.prog 215 0 0 3:=⟨by kernel_rfl⟩
instance : FdT Tryz.prog 215 1 1 3:=⟨by kernel_rfl⟩
instance : PtT Tryz.prog 215 [(0,1),(1,1)]:=⟨by kernel_rfl⟩
instance : ZrT Tryz.prog 215 [.int .i64 0,.int .i64 0]:=⟨by kernel_rfl⟩
instance : SzT Tryz.prog 217 4:=⟨by kernel_rfl⟩
instance : ByT Tryz.prog 217 32:=⟨by kernel_rfl⟩
instance : AgT Tryz.prog 217 true:=⟨by kernel_rfl⟩
instance : FdT Tryz.prog 217 0 0 4:=⟨by kernel_rfl⟩
instance : FdT Tryz.prog 217 1 1 3:=⟨by kernel_rfl⟩
instance : FdT Tryz.prog 217 2 2 215:=⟨by kernel_rfl⟩
instance : PtT Tryz.prog 217 [(0,1),(1,1),(2,2)]:=⟨by kernel_rfl⟩
instance : ZrT Tryz.prog 217 [.bool false,.int .i64 0,.int .i64 0,.int .i64 0]:=⟨by kernel_rfl⟩
instance : SzT Tryz.prog 232 1:=⟨by kernel_rfl⟩
instance : AgT Tryz.prog 232 false:=⟨by kernel_rfl⟩
instance : SlT Tryz.prog 232 238:=⟨by kernel_rfl⟩
instance : SzT Tryz.prog 234 4:=⟨by kernel_rfl⟩
instance : ByT Tryz.prog 234 48:=⟨by kernel_rfl⟩
instance : AgT Tryz.prog 234 true:=⟨by kernel_rfl⟩
instance : FdT Tryz.prog 234 0 0 3:=⟨by kernel_rfl⟩
instance : FdT Tryz.prog 234 1 1 4:=⟨by kernel_rfl⟩
instance : FdT Tryz.prog 234 2 2 3:=⟨by kernel_rfl⟩
instance : FdT Tryz.prog 234 3 3 232:=⟨by kernel_rfl⟩
instance : PtT Tryz.prog 234 [(0,1),(1,1),(2,1),(3,1)]:=⟨by kernel_rfl⟩
instance : ZrT Tryz.prog 234 [.int .i64 0,.bool false,.int .i64 0,.slice none 0 0]:=⟨by kernel_rfl⟩
instance : SzT Tryz.prog 238 2:=⟨by kernel_rfl⟩
instance : ByT Tryz.prog 238 16:=⟨by kernel_rfl⟩
instance : AgT Tryz.prog 238 true:=⟨by kernel_rfl⟩
instance : FdT Tryz.prog 238 0 0 3:=⟨by kernel_rfl⟩
instance : FdT Tryz.prog 238 1 1 4:=⟨by kernel_rfl⟩
instance : PtT Tryz.prog 238 [(0,1),(1,1)]:=⟨by kernel_rfl⟩
instance : ZrT Tryz.prog 238 [.int .i64 0,.bool false]:=⟨by kernel_rfl⟩
instance : CaT Tryz.prog 7:=⟨by kernel_rfl⟩
instance : CaT Tryz.prog 8:=⟨by kernel_rfl⟩
instance : CaT Tryz.prog 9:=⟨by kernel_rfl⟩
instance : CaT Tryz.prog 10:=⟨by kernel_rfl⟩
instance : CaT Tryz.prog 11:=⟨by kernel_rfl⟩
instance : CaT Tryz.prog 12:=⟨by kernel_rfl⟩
instance : CaT Tryz.prog 13:=⟨by kernel_rfl⟩
instance : CaT Tryz.prog 14:=⟨by kernel_rfl⟩
instance : CaT Tryz.prog 15:=⟨by kernel_rfl⟩
instance : CaT Tryz.prog 24:=⟨by kernel_rfl⟩
instance : CaT Tryz.prog 25:=⟨by kernel_rfl⟩
instance : CaT Tryz.prog 26:=⟨by kernel_rfl⟩
instance : CaT Tryz.prog 27:=⟨by kernel_rfl⟩
instance : CaT Tryz.prog 28:=⟨by kernel_rfl⟩
instance : CaT Tryz.prog 29:=⟨by kernel_rfl⟩
instance : CaT Tryz.prog 30:=⟨by kernel_rfl⟩
instance : CaT Tryz.prog 31:=⟨by kernel_rfl⟩
instance : CaT Tryz.prog 32:=⟨by kernel_rfl⟩
instance : CaT Tryz.prog 33:=⟨by kernel_rfl⟩
instance : CaT Tryz.prog 34:=⟨by kernel_rfl⟩
instance : CaT Tryz.prog 35:=⟨by kernel_rfl⟩
instance : CaT Tryz.prog 36:=⟨by kernel_rfl⟩
instance : CaT Tryz.prog 37:=⟨by kernel_rfl⟩
instance : CaT Tryz.prog 38:=⟨by kernel_rfl⟩
instance : CaT Tryz.prog 39:=⟨by kernel_rfl⟩
instance : CaT Tryz.prog 40:=⟨by kernel_rfl⟩
instance : CaT Tryz.prog 45:=⟨by kernel_rfl⟩
instance : CaT Tryz.prog 55:=⟨by kernel_rfl⟩
instance : CaT Tryz.prog 56:=⟨by kernel_rfl⟩
instance : CaT Tryz.prog 57:=⟨by kernel_rfl⟩
instance : CaT Tryz.prog 66:=⟨by kernel_rfl⟩
instance : CaT Tryz.prog 73:=⟨by kernel_rfl⟩
instance : CaT Tryz.prog 74:=⟨by kernel_rfl⟩
instance : CaT Tryz.prog 75:=⟨by kernel_rfl⟩
instance : CaT Tryz.prog 76:=⟨by kernel_rfl⟩
instance : CaT Tryz.prog 77:=⟨by kernel_rfl⟩
instance : CaT Tryz.prog 78:=⟨by kernel_rfl⟩
instance : CaT Tryz.prog 79:=⟨by kernel_rfl⟩
instance : CaT Tryz.prog 80:=⟨by kernel_rfl⟩
instance : CaT Tryz.prog 83:=⟨by kernel_rfl⟩
instance : CaT Tryz.prog 84:=⟨by kernel_rfl⟩
instance : CaT Tryz.prog 85:=⟨by kernel_rfl⟩
instance : CaT Tryz.prog 86:=⟨by kernel_rfl⟩
instance : CaT Tryz.prog 89:=⟨by kernel_rfl⟩
instance : CaT Tryz.prog 90:=⟨by kernel_rfl⟩
instance : CaT Tryz.prog 94:=⟨by kernel_rfl⟩
instance : CaT Tryz.prog 99:=⟨by kernel_rfl⟩
instance : CaT Tryz.prog 100:=⟨by kernel_rfl⟩
instance : CaT Tryz.prog 105:=⟨by kernel_rfl⟩
instance : CaT Tryz.prog 109:=⟨by kernel_rfl⟩
instance : CaT Tryz.prog 115:=⟨by kernel_rfl⟩
instance : CaT Tryz.prog 116:=⟨by kernel_rfl⟩
instance : CaT Tryz.prog 120:=⟨by kernel_rfl⟩
instance : CaT Tryz.prog 121:=⟨by kernel_rfl⟩
instance : CaT Tryz.prog 122:=⟨by kernel_rfl⟩
instance : CaT Tryz.prog 134:=⟨by kernel_rfl⟩
instance : CaT Tryz.prog 137:=⟨by kernel_rfl⟩
instance : CaT Tryz.prog 138:=⟨by kernel_rfl⟩
instance : CaT Tryz.prog 156:=⟨by kernel_rfl⟩
instance : CaT Tryz.prog 157:=⟨by kernel_rfl⟩
instance : CaT Tryz.prog 158:=⟨by kernel_rfl⟩
instance : CaT Tryz.prog 159:=⟨by kernel_rfl⟩
instance : CaT Tryz.prog 160:=⟨by kernel_rfl⟩
instance : CaT Tryz.prog 161:=⟨by kernel_rfl⟩
instance : CaT Tryz.prog 162:=⟨by kernel_rfl⟩
instance : CaT Tryz.prog 163:=⟨by kernel_rfl⟩
instance : CaT Tryz.prog 170:=⟨by kernel_rfl⟩
instance : CaT Tryz.prog 174:=⟨by kernel_rfl⟩
instance : CaT Tryz.prog 175:=⟨by kernel_rfl⟩
instance : CaT Tryz.prog 185:=⟨by kernel_rfl⟩
instance : CaT Tryz.prog 188:=⟨by kernel_rfl⟩
instance : CaT Tryz.prog 189:=⟨by kernel_rfl⟩
instance : CaT Tryz.prog 190:=⟨by kernel_rfl⟩
instance : CaT Tryz.prog 191:=⟨by kernel_rfl⟩
instance : CaT Tryz.prog 192:=⟨by kernel_rfl⟩
instance : CaT Tryz.prog 193:=⟨by kernel_rfl⟩
instance : CaT Tryz.prog 194:=⟨by kernel_rfl⟩
instance : CaT Tryz.prog 195:=⟨by kernel_rfl⟩
instance : CaT Tryz.prog 196:=⟨by kernel_rfl⟩
instance : CaT Tryz.prog 197:=⟨by kernel_rfl⟩
instance : CaT Tryz.prog 198:=⟨by kernel_rfl⟩
instance : CaT Tryz.prog 199:=⟨by kernel_rfl⟩
instance : CaT Tryz.prog 200:=⟨by kernel_rfl⟩
instance : CaT Tryz.prog 201:=⟨by kernel_rfl⟩
instance : CaT Tryz.prog 202:=⟨by kernel_rfl⟩
instance : CaT Tryz.prog 203:=⟨by kernel_rfl⟩
instance : CaT Tryz.prog 204:=⟨by kernel_rfl⟩
instance : CaT Tryz.prog 205:=⟨by kernel_rfl⟩
instance : CaT Tryz.prog 206:=⟨by kernel_rfl⟩
instance : CaT Tryz.prog 207:=⟨by kernel_rfl⟩
instance : CaT Tryz.prog 209:=⟨by kernel_rfl⟩
instance : CaT Tryz.prog 210:=⟨by kernel_rfl⟩
instance : CaT Tryz.prog 211:=⟨by kernel_rfl⟩
instance : CaT Tryz.prog 212:=⟨by kernel_rfl⟩
instance : CaT Tryz.prog 213:=⟨by kernel_rfl⟩
instance : CaT Tryz.prog 214:=⟨by kernel_rfl⟩
instance : CaT Tryz.prog 215:=⟨by kernel_rfl⟩
instance : CaT Tryz.prog 216:=⟨by kernel_rfl⟩
instance : CaT Tryz.prog 217:=⟨by kernel_rfl⟩
instance : CaT Tryz.prog 218:=⟨by kernel_rfl⟩
instance : CaT Tryz.prog 219:=⟨by kernel_rfl⟩
instance : CaT Tryz.prog 220:=⟨by kernel_rfl⟩
instance : CaT Tryz.prog 221:=⟨by kernel_rfl⟩
instance : CaT Tryz.prog 222:=⟨by kernel_rfl⟩
instance : CaT Tryz.prog 223:=⟨by kernel_rfl⟩
instance : CaT Tryz.prog 224:=⟨by kernel_rfl⟩
instance : CaT Tryz.prog 225:=⟨by kernel_rfl⟩
instance : CaT Tryz.prog 226:=⟨by kernel_rfl⟩
instance : CaT Tryz.prog 227:=⟨by kernel_rfl⟩
instance : CaT Tryz.prog 228:=⟨by kernel_rfl⟩
instance : CaT Tryz.prog 229:=⟨by kernel_rfl⟩
instance : CaT Tryz.prog 230:=⟨by kernel_rfl⟩
instance : CaT Tryz.prog 231:=⟨by kernel_rfl⟩
end Go.Proofs.YtgkalkgplcdnkaaGreat
namespace Go.AL
inductive Stmt where
 | mk (op x y n : Int) (th el : List Stmt)
 deriving Inhabited
namespace Stmt
def op : Stmt → Int | .mk o _ _ _ _ _ => o
def x : Stmt → Int | .mk _ o _ _ _ _ => o
def y : Stmt → Int | .mk _ _ o _ _ _ => o
def n : Stmt → Int | .mk _ _ _ o _ _ => o
def th : Stmt → List Stmt | .mk _ _ _ _ o _ => o
def el : Stmt → List Stmt | .mk _ _ _ _ _ o => o
end Stmt
structure Prg where
 types : List Int
 body : List Stmt
 deriving Inhabited
structure Pnt where
 op : Int
 x : Int
 y : Int
 n : Int
 next : List Int
 deriving Inhabited,DecidableEq
structure Iss where
 point : Int
 kind : Int
 with_ : Int
 deriving Inhabited,DecidableEq
structure Acc where
 var : Int
 write : Bool
 deriving Inhabited,DecidableEq
mutual
def aP : Stmt → List AV
 | .mk o x y n t e => [iv o,iv x,iv y,iv n,.imm t.length (jO t),.imm e.length (jO e)]
def jO : List Stmt → List AV
 | [] => []
 | s :: l => aP s ++ jO l
end
theorem qM:∀ l,jO l = aA aP l
 | [] => by simp [jO,aA]
 | s :: l => by have := qM l;simp only [jO,this,aA,List.flatMap_cons]
theorem e7 (s:Stmt):aP s = [iv s.op,iv s.x,iv s.y,iv s.n,sl aP s.th,sl aP s.el]:=by
 cases s;simp only [aP,qM,Stmt.op,Stmt.x,Stmt.y,Stmt.n,Stmt.th,Stmt.el]
def bZ (p : Pnt) : List AV := [iv p.op,iv p.x,iv p.y,iv p.n,sl cI p.next]
instance : FlT aP 6:=⟨fun s => by rw [e7]; rfl⟩
instance : FlT bZ 5:=⟨fun s => rfl⟩
instance : FE aP (fun s => [iv s.op,iv s.x,iv s.y,iv s.n,sl aP s.th,sl aP s.el]):=⟨e7⟩
instance : FE bZ (fun p => [iv p.op,iv p.x,iv p.y,iv p.n,sl cI p.next]):=⟨fun _ => rfl⟩
mutual
theorem qL:∀ s,bF (aP s) = true
 | .mk o x y n t e => by simp only [aP,bF,AV.pur,kQ t,kQ e,Bool.and_self]
theorem kQ:∀ l,bF (jO l) = true
 | [] => rfl
 | s :: l => by simp only [jO,iM,qL s,kQ l,Bool.and_self]
end
instance (s : Stmt) : Pur (aP s):=⟨qL s⟩
instance (s : Pnt) : Pur (bZ s):=⟨by simp only [bZ,bF,AV.pur,cR,Bool.and_self]; simp only [(inferInstance : Pur (aA cI s.next)).pf,Bool.and_self]⟩
abbrev bY (s : Stmt) : AV := .agg [iv s.op,iv s.x,iv s.y,iv s.n,sl aP s.th,sl aP s.el]
abbrev dV (p : Pnt) : AV := .agg [iv p.op,iv p.x,iv p.y,iv p.n,sl cI p.next]
abbrev cJ (p : Prg) : AV := .agg [sl cI p.types,sl aP p.body]
abbrev Jn (p : Iss) : AV := .agg [iv p.point,iv p.kind,iv p.with_]
def dW (types : List Int) (v : Int) : Int := if 0 ≤ v ∧ v < types.length then types[v.toNat]! else 0
def nY (t : Int) : Bool := decide (t = 3) || decide (t = 4)
def aV (types : List Int) (x : Pnt) (v : Int) : Int :=
 if x.op = 3 then (if v = x.y then (if types[v.toNat]! = 2 ∨ types[v.toNat]! = 4 then 2 else 1) else 0)
 else if x.op = 4 ∨ x.op = 5 ∨ x.op = 6 then (if v = x.y then 3 else 0)
 else if x.op = 7 then (if v = x.x then 3 else if v = x.y then 1 else 0)
 else if x.op = 8 then (if v = x.x then 2 else 0) else 0
def aU (x : Pnt) : Int := if 1 ≤ x.op ∧ x.op ≤ 6 then x.x else -1
theorem aW {α:Type}[Inhabited α] (xs:List α) (i:Nat) (h:i < xs.length):xs[i]! = xs[i] := getElem!_pos xs i h
theorem j1 {α:Type}[Inhabited α] (p:α → Bool) (xs:List α):xs.all p = true ↔ ∀ i,i < xs.length → p xs[i]! = true:=by
 rw [List.all_eq_true]
 constructor
 ·intro h i hi;rw [aW _ _ hi]; exact h _ (List.getElem_mem hi)
 ·intro h x hx
  obtain ⟨i,hi,rfl⟩ := List.getElem_of_mem hx
  have := h i hi;rwa [aW _ _ hi] at this
theorem j4 {α:Type}[Inhabited α] (p:α → Bool) (xs:List α) (i:Nat) (hi:i < xs.length) (h:p xs[i]! = false):xs.all p = false:=by
 rw [Bool.eq_false_iff]; intro h2;rw [j1] at h2;have := h2 i hi;rw [h] at this;cases this
theorem cO {α:Type}[Inhabited α] (xs:List α) (k:Nat) (h:k < xs.length):xs.take (k + 1) = xs.take k ++ [xs[k]!]:=by
 rw [aW _ _ h,List.take_succ_eq_append_getElem h]
theorem o8 {α:Type}[Inhabited α] (xs:List α) (k:Nat) (h:k < xs.length):xs.drop k = xs[k]! :: xs.drop (k + 1):=by
 rw [aW _ _ h,List.drop_eq_getElem_cons h]
def bO (ts : List Int) : Bool := ts.all (fun t => decide (1 ≤ t) && decide (t ≤ 4)) && decide (ts.length ≤ 6)
theorem kU {ts:List Int}(h:bO ts = true) (i:Nat) (hi:i < ts.length):1 ≤ ts[i]! ∧ ts[i]! ≤ 4:=by
 unfold bO at h;grind [j1]
theorem jL {ts:List Int}(h:bO ts = true):ts.length ≤ 6:=by
 unfold bO at h;grind
theorem fT {ts:List Int}(h:bO ts = true) (v:Int):0 ≤ dW ts v ∧ dW ts v ≤ 4:=by
 unfold dW;split
 ·rename_i h1;have := kU h v.toNat (by omega);omega
 ·omega
theorem oY {ts:List Int}(h:bO ts = true) (v:Int):0 < dW ts v ↔ 0 ≤ v ∧ v < ts.length:=by
 unfold dW;split
 ·rename_i h1;have := kU h v.toNat (by omega);omega
 ·omega
def dC (ts : List Int) (s : Stmt) : Bool :=
 let x := dW ts s.x;let y := dW ts s.y
 if s.op = 1 then decide (x = 1 ∧ s.y = 0 ∧ 0 ≤ s.n ∧ s.n ≤ 9)
 else if s.op = 2 then decide (x = 2 ∧ s.y = 0 ∧ 0 ≤ s.n ∧ s.n ≤ 9)
 else if s.n ≠ 0 then false
 else if s.op = 3 then decide (x = y ∧ 0 < x ∧ s.x ≠ s.y)
 else if s.op = 4 then decide (x = 3 ∧ 2 ≤ y ∧ s.x ≠ s.y)
 else if s.op = 5 then decide (x = 4 ∧ (y = 2 ∨ y = 4) ∧ s.x ≠ s.y)
 else if s.op = 6 then decide (x = 1 ∧ 2 ≤ y)
 else if s.op = 7 then decide ((x = 2 ∨ x = 4) ∧ y = 1)
 else if s.op = 8 then decide (x = 2 ∧ s.y = 0)
 else false
theorem aY {α:Type}[Inhabited α] (xs:List α) (i:Nat) (h:i < xs.length):xs[i]! ∈ xs:=by
 rw [aW _ _ h]; exact List.getElem_mem h
mutual
def pT (ts : List Int) (d : Nat) : Stmt → Bool
 | .mk op x y n th el => if op ≠ 9 ∧ op ≠ 10 then th.isEmpty && el.isEmpty && dC ts (.mk op x y n th el)
  else match d with
   | 0 => false
   | d + 1 => decide (x = 0 ∧ y = 0 ∧ n = 0) && !(decide (op = 10) && !el.isEmpty) && okL ts d th && okL ts d el
def okL (ts : List Int) (d : Nat) : List Stmt → Bool
 | [] => true
 | s :: l => pT ts d s && okL ts d l
end
mutual
def cM : Stmt → Nat
 | .mk _ _ _ _ th el => 1 + aJ th + aJ el
def aJ : List Stmt → Nat
 | [] => 0
 | s :: l => cM s + aJ l
end
theorem gG (s:Stmt):cM s = 1 + aJ s.th + aJ s.el := by cases s;simp only [cM,Stmt.th,Stmt.el]
theorem Ew (ts:List Int) (d:Nat) (s:Stmt):pT ts d s = if s.op ≠ 9 ∧ s.op ≠ 10 then s.th.isEmpty && s.el.isEmpty && dC ts s
  else match d with
   | 0 => false
   | d + 1 => decide (s.x = 0 ∧ s.y = 0 ∧ s.n = 0) && !(decide (s.op = 10) && !s.el.isEmpty) && okL ts d s.th && okL ts d s.el := by
 cases s;cases d <;> simp only [pT,Stmt.th,Stmt.el,Stmt.op,Stmt.x,Stmt.y,Stmt.n] <;> rfl
theorem yK (ts:List Int) (d:Nat):∀ l,okL ts d l = l.all (pT ts d)
 | [] => by simp [okL]
 | s :: l => by simp [okL,yK ts d l]
theorem jD:∀ a b,aJ (a ++ b) = aJ a + aJ b
 | [],b => by simp [aJ]
 | s :: a,b => by simp only [List.cons_append,aJ,jD a b]; omega
theorem uL:∀ {l:List Stmt}{s:Stmt},s ∈ l → cM s ≤ aJ l
 | s :: l,_,.head _ => by simp only [aJ]; omega
 | _ :: l,s,.tail _ h => by have := uL h;simp only [aJ]; omega
theorem eQ (l:List Stmt) (i:Nat) (h:i < l.length):cM l[i]! ≤ aJ l := uL (aY l i h)
theorem gE (s:Stmt):aJ s.th + aJ s.el < cM s := by rw [gG]; omega
theorem dO:∀ l:List Stmt,l.length ≤ aJ l
 | [] => by simp [aJ]
 | s :: l => by have := dO l;simp only [aJ,List.length_cons,gG]; omega
def cL (p : Prg) : Bool := bO p.types && okL p.types 4 p.body && decide (aJ p.body ≤ 30)
theorem FZ (ts:List Int) (d:Int) (hd:0 ≤ d) (s:Stmt):pT ts d.toNat s = if s.op ≠ 9 ∧ s.op ≠ 10 then s.th.isEmpty && s.el.isEmpty && dC ts s
  else if d < 1 then false else decide (s.x = 0 ∧ s.y = 0 ∧ s.n = 0) && !(decide (s.op = 10) && !s.el.isEmpty) && okL ts (d - 1).toNat s.th && okL ts (d - 1).toNat s.el := by
 rw [Ew]
 by_cases h : s.op ≠ 9 ∧ s.op ≠ 10
 ·rw [if_pos h,if_pos h]
 ·rw [if_neg h, if_neg h]
  by_cases h2 : d < 1
  ·obtain rfl : d = 0 := by omega
   rfl
  ·obtain ⟨k, rfl⟩ : ∃ k : Nat, d = ((k + 1 : Nat) : Int) := ⟨(d - 1).toNat, by omega⟩
   have e1 : (((k + 1 : Nat) : Int)).toNat = k + 1 := rfl
   have e2 : (((k + 1 : Nat) : Int) - 1).toNat = k := by omega
   rw [e1,e2,if_neg h2]
theorem Ei {ts:List Int}{d:Nat}{l:List Stmt}{k:Nat}(hk:k < l.length) (h:pT ts d l[k]! = false):okL ts d l = false:=by
 rw [yK]; exact j4 _ _ k hk h
theorem Ex {ts:List Int}{d:Nat}{l:List Stmt}(h:∀ i,i < l.length → pT ts d l[i]! = true):okL ts d l = true:=by
 rw [yK,j1]; exact h
mutual
def Cq (most n : Int) : Stmt → Int
 | .mk _ _ _ _ th el => let n1 := n + 1 + kE (most - n) 0 th;if n1 ≤ most then n1 + kE (most - n1) 0 el else n1
def kE (most n : Int) : List Stmt → Int
 | [] => n
 | s :: l => if n ≤ most then kE most (Cq most n s) l else n
end
theorem FJ (most n:Int) (s:Stmt):Cq most n s = if n + 1 + kE (most - n) 0 s.th ≤ most then (n + 1 + kE (most - n) 0 s.th) + kE (most - (n + 1 + kE (most - n) 0 s.th)) 0 s.el else n + 1 + kE (most - n) 0 s.th:=by
 cases s;simp only [Cq,Stmt.th,Stmt.el]; rfl
mutual
theorem CX:∀ (s:Stmt) (most n:Int),n ≤ Cq most n s ∧ Cq most n s ≤ n + cM s ∧ (Cq most n s ≤ most → Cq most n s = n + cM s)
 | .mk o x y k th el, most, n => by
  have h1 := jK th (most - n) 0
  have h2 := fun m => jK el m 0
  simp only [Cq,cM]
  split
  ·have := h2 (most - (n + 1 + kE (most - n) 0 th));omega
  ·omega
theorem jK:∀ (l:List Stmt) (most n:Int),n ≤ kE most n l ∧ kE most n l ≤ n + aJ l ∧ (kE most n l ≤ most → kE most n l = n + aJ l)
 | [],most,n => by simp [kE,aJ]
 | s :: l, most, n => by
  have h1 := CX s most n
  have h2 := jK l most (Cq most n s)
  simp only [kE,aJ]
  split <;> omega
end
theorem GP (l:List Stmt) (m:Int):decide (kE m 0 l ≤ m) = decide ((aJ l:Int) ≤ m):=by
 have := jK l m 0;simp only [decide_eq_decide]; omega
theorem Dq (most n:Int) (l:List Stmt) (k:Nat) (hk:k < l.length) (h:n ≤ most):kE most n (l.drop k) = kE most (Cq most n l[k]!) (l.drop (k + 1)):=by
 rw [o8 _ _ hk,kE,if_pos h]
theorem Dj (most n:Int) (l:List Stmt) (h:¬ n ≤ most):kE most n l = n := by cases l <;> simp [kE,h]
theorem Es (most n:Int) (l:List Stmt) (k:Nat) (hk:¬ k < l.length):kE most n (l.drop k) = n:=by
 rw [List.drop_of_length_le (by omega)]; simp [kE]
mutual
def iX (ts : List Int) (nest c : Int) : Stmt → Bool × Int
 | .mk op x y n th el => if 30 < c + 1 then (false, c + 1) else
   if op ≠ 9 ∧ op ≠ 10 then (th.isEmpty && el.isEmpty && dC ts (.mk op x y n th el),c + 1)
   else if nest = 4 ∨ x ≠ 0 ∨ y ≠ 0 ∨ n ≠ 0 ∨ (op = 10 ∧ el ≠ []) then (false,c + 1)
   else if (gS ts (nest + 1) (c + 1) th).1 = true then gS ts (nest + 1) (gS ts (nest + 1) (c + 1) th).2 el else (false,(gS ts (nest + 1) (c + 1) th).2)
def gS (ts : List Int) (nest c : Int) : List Stmt → Bool × Int
 | [] => (true,c)
 | s :: l => if (iX ts nest c s).1 = true then gS ts nest (iX ts nest c s).2 l else (false,(iX ts nest c s).2)
end
theorem Eo (ts : List Int) (nest c : Int) (s : Stmt) : iX ts nest c s = if 30 < c + 1 then (false, c + 1) else
   if s.op ≠ 9 ∧ s.op ≠ 10 then (s.th.isEmpty && s.el.isEmpty && dC ts s,c + 1)
   else if nest = 4 ∨ s.x ≠ 0 ∨ s.y ≠ 0 ∨ s.n ≠ 0 ∨ (s.op = 10 ∧ s.el ≠ []) then (false,c + 1)
   else if (gS ts (nest + 1) (c + 1) s.th).1 = true then gS ts (nest + 1) (gS ts (nest + 1) (c + 1) s.th).2 s.el else (false,(gS ts (nest + 1) (c + 1) s.th).2) := by
 cases s;simp only [iX,Stmt.th,Stmt.el,Stmt.op,Stmt.x,Stmt.y,Stmt.n]; rfl
mutual
theorem y8 (ts:List Int):∀ (s:Stmt) (d:Nat) (c:Int),d ≤ 4 → 0 ≤ c → c ≤ 30 → c ≤ (iX ts (4 - d) c s).2 ∧ (iX ts (4 - d) c s).2 ≤ c + cM s ∧ (iX ts (4 - d) c s).2 ≤ 31 ∧
  ((iX ts (4 - d) c s).1 = true ↔ pT ts d s = true ∧ c + cM s ≤ 30) ∧ ((iX ts (4 - d) c s).1 = true → (iX ts (4 - d) c s).2 = c + cM s)
 | .mk op x y n th el, d, c, hd, hc0, hc => by
  have hS : cM (.mk op x y n th el) = 1 + aJ th + aJ el := by simp only [cM]
  rw [hS]
  simp only [iX]
  split
  ·simp;omega
  ·rename_i h30
   split
   ·rename_i hop
    simp only [pT,hop,if_true,ne_eq,not_false_eq_true,and_self]
    cases th with
    | cons a b => simp [aJ]; have := gG a;omega
    | nil => cases el with
     | cons a b => simp [aJ]; have := gG a;omega
     | nil => simp [aJ,hop]; omega
   ·rename_i hop
    split
    ·rename_i hb
     have : pT ts d (.mk op x y n th el) = false := by
      simp only [pT,hop,if_false]
      cases d with
      | zero => rfl
      | succ d =>
       simp only [Bool.and_eq_false_iff,decide_eq_false_iff_not,Bool.not_eq_false',Bool.and_eq_true,decide_eq_true_eq]
       rcases hb with h|h|h|h | ⟨h1,h2⟩
       ·omega
       ·exact .inl (.inl (.inl (by omega)))
       ·exact .inl (.inl (.inl (by omega)))
       ·exact .inl (.inl (.inl (by omega)))
       ·exact .inl (.inl (.inr ⟨h1,by cases el;exact absurd rfl h2;rfl⟩))
     simp [this]; omega
    ·rename_i hb
     cases d with
     | zero => exact absurd (.inl rfl) hb
     | succ d =>
      have e : ((4 : Int) - ((d + 1 : Nat) : Int)) + 1 = 4 - (d : Int) := by omega
      rw [e]
      have h1 := lA ts th d (c + 1) (by omega) (by omega) (by omega)
      have hok : pT ts (d + 1) (.mk op x y n th el) = (okL ts d th && okL ts d el) := by
       simp only [pT,hop,if_false]
       have e1 : (x = 0 ∧ y = 0 ∧ n = 0) := by omega
       have e2 : (decide (op = 10) && !el.isEmpty) = false := by
        rw [Bool.and_eq_false_iff,decide_eq_false_iff_not]
        by_cases ho : op = 10
        ·right; cases el with
         | nil => rfl
         | cons a b => exact absurd (.inr (.inr (.inr (.inr ⟨ho,by simp⟩)))) hb
        ·exact .inl ho
       simp [e1,e2]
      rw [hok]
      generalize gS ts (4 - (d : Int)) (c + 1) th = r1 at h1
      obtain ⟨b1,c1⟩ := r1
      dsimp only at h1 ⊢
      cases b1 with
      | true =>
       have h3 := h1.2.2.2.1.1 rfl
       have h4 := h1.2.2.2.2 rfl
       have h2 := lA ts el d c1 (by omega) (by omega) (by omega)
       simp only [if_true,h3.1,Bool.true_and]
       refine ⟨by omega,by omega,by omega,⟨fun q => ?_,fun q => ?_⟩,fun q => ?_⟩
       ·have := h2.2.2.2.1.1 q;exact ⟨this.1,by omega⟩
       ·exact h2.2.2.2.1.2 ⟨q.1,by omega⟩
       ·have := h2.2.2.2.2 q;omega
      | false =>
       simp only [Bool.false_eq_true,if_false,false_iff]
       refine ⟨by omega,by omega,by omega,?_,fun h => h.elim⟩
       rintro ⟨q1,q2⟩
       simp only [Bool.and_eq_true] at q1
       exact absurd (h1.2.2.2.1.2 ⟨q1.1,by omega⟩) (by simp)
theorem lA (ts:List Int):∀ (l:List Stmt) (d:Nat) (c:Int),d ≤ 4 → 0 ≤ c → c ≤ 30 → c ≤ (gS ts (4 - d) c l).2 ∧ (gS ts (4 - d) c l).2 ≤ c + aJ l ∧ (gS ts (4 - d) c l).2 ≤ 31 ∧
  ((gS ts (4 - d) c l).1 = true ↔ okL ts d l = true ∧ c + aJ l ≤ 30) ∧ ((gS ts (4 - d) c l).1 = true → (gS ts (4 - d) c l).2 = c + aJ l)
 | [],d,c,hd,hc0,hc => by simp [gS,okL,aJ]; omega
 | s :: l, d, c, hd, hc0, hc => by
  have h1 := y8 ts s d c hd hc0 hc
  simp only [gS,okL,aJ]
  generalize iX ts (4 - (d : Int)) c s = r1 at h1
  obtain ⟨b1,c1⟩ := r1
  dsimp only at h1 ⊢
  cases b1 with
  | true =>
   have h3 := h1.2.2.2.1.1 rfl
   have h4 := h1.2.2.2.2 rfl
   have h2 := lA ts l d c1 (by omega) (by omega) (by omega)
   simp only [if_true,h3.1,Bool.true_and]
   refine ⟨by omega,by omega,by omega,⟨fun q => ?_,fun q => ?_⟩,fun q => ?_⟩
   ·have := h2.2.2.2.1.1 q;exact ⟨this.1,by omega⟩
   ·exact h2.2.2.2.1.2 ⟨q.1,by omega⟩
   ·have := h2.2.2.2.2 q;omega
  | false =>
   simp only [Bool.false_eq_true,if_false,false_iff]
   refine ⟨by omega,by omega,by omega,?_,fun h => h.elim⟩
   rintro ⟨q1,q2⟩
   simp only [Bool.and_eq_true] at q1
   exact absurd (h1.2.2.2.1.2 ⟨q1.1,by omega⟩) (by simp)
end
theorem Be (p:Prg):(bO p.types && (gS p.types 0 0 p.body).1) = cL p:=by
 have h := (lA p.types p.body 4 0 (by omega) (by omega) (by omega)).2.2.2.1
 have e : ((4 : Int) - ((4 : Nat) : Int)) = 0 := by omega
 rw [e] at h
 unfold cL
 rw [Bool.and_assoc]
 congr 1
 rw [Bool.eq_iff_iff,h]
 simp only [Bool.and_eq_true,decide_eq_true_eq]
 constructor
 ·exact fun ⟨a,b⟩ => ⟨a,by omega⟩
 ·exact fun ⟨a,b⟩ => ⟨a,by omega⟩
theorem scL_stop {ts:List Int}{nest c:Int}{l:List Stmt}{k:Nat}(hk:k < l.length):gS ts nest c (l.drop k) = if (iX ts nest c l[k]!).1 = true then gS ts nest (iX ts nest c l[k]!).2 (l.drop (k + 1)) else (false,(iX ts nest c l[k]!).2):=by
 rw [o8 _ _ hk,gS]
theorem GJ (ts:List Int) (l:List Stmt) (nest c:Int) (h0:0 ≤ nest) (h1:nest ≤ 4) (h2:0 ≤ c) (h3:c ≤ 30):0 ≤ (gS ts nest c l).2 ∧ (gS ts nest c l).2 ≤ 31 ∧ ((gS ts nest c l).1 = true → (gS ts nest c l).2 ≤ 30):=by
 obtain ⟨k,hk⟩ : ∃ k : Nat,nest = 4 - (k : Int) := ⟨(4 - nest).toNat,by omega⟩
 have := lA ts l k c (by omega) h2 h3
 rw [← hk] at this
 refine ⟨by omega,by omega,fun h => ?_⟩
 have h4 := this.2.2.2.1.1 h
 have h5 := this.2.2.2.2 h
 omega
theorem Hh (ts:List Int) (s:Stmt) (nest c:Int) (h0:0 ≤ nest) (h1:nest ≤ 4) (h2:0 ≤ c) (h3:c ≤ 30):0 ≤ (iX ts nest c s).2 ∧ (iX ts nest c s).2 ≤ 31 ∧ ((iX ts nest c s).1 = true → (iX ts nest c s).2 ≤ 30):=by
 obtain ⟨k,hk⟩ : ∃ k : Nat,nest = 4 - (k : Int) := ⟨(4 - nest).toNat,by omega⟩
 have := y8 ts s k c (by omega) h2 h3
 rw [← hk] at this
 refine ⟨by omega,by omega,fun h => ?_⟩
 have h4 := this.2.2.2.1.1 h
 have h5 := this.2.2.2.2 h
 omega
def mB (ks : List Nat) (ts : List (Nat × AV)) : List (Nat × AV) := ks.filterMap fun t => (lk ts t).map fun v => (t,v)
def m3 (ks : List Nat) (hs : List (Nat × Option (List AV))) : List (Nat × Option (List AV)) := ks.map fun t => (t,aO hs t)
theorem jN {ts:List (Nat × AV)}:∀ (ks:List Nat),m9 ts (mB ks ts)
 | [] => trivial
 | k :: ks => by
  simp only [mB,List.filterMap_cons]
  cases h : lk ts k with
  | none => exact jN ks
  | some v => exact ⟨h,jN ks⟩
theorem k8 {hs:List (Nat × Option (List AV))}:∀ (ks:List Nat),l8 hs (m3 ks hs)
 | [] => trivial
 | k :: ks => ⟨.inr rfl,k8 ks⟩
theorem jH {ts a b:List (Nat × AV)}(h1:m9 ts a) (h2:m9 ts b):m9 ts (a ++ b):=by
 induction a with
 | nil => exact h2
 | cons x a ih => exact ⟨h1.1,ih h1.2⟩
theorem jM {ts a b:List (Nat × Option (List AV))}(h1:l8 ts a) (h2:l8 ts b):l8 ts (a ++ b):=by
 induction a with
 | nil => exact h2
 | cons x a ih => exact ⟨h1.1,ih h1.2⟩
variable {P : Program} {N : Nat} {Q : Exit → AS → Prop}
theorem BW {σ:Type}{c:Code}{ts:List (Nat × AV)}{hs:List (Nat × Option (List AV))}{n:Nat}{z0:Lo}(ks:List Nat) (kt:List (Nat × AV)) (js:List Nat) (kh:List (Nat × Option (List AV)))
  (ot : σ → List (Nat × AV)) (oh : σ → List (Nat × Option (List AV))) (p : σ → Prop) (μ : σ → Nat) (i0 : σ) (h0 : p i0) (hk : mB ks ts = kt) (hj : m3 js hs = kh)
  (h1 : m9 ts (ot i0)) (h2 : l8 hs (oh i0))
  (round : ∀ i,p i → AW P N c (oT (fun s' => ∃ j,p j ∧ μ j < μ i ∧ Le s' ⟨ot j ++ kt,oh j ++ kh,n,z0⟩) Q) ⟨ot i ++ kt,oh i ++ kh,n,z0⟩) :
  AW P N (.loop c) Q ⟨ts,hs,n,z0⟩ := by
 subst hk hj
 exact FR p (fun i => ⟨ot i ++ mB ks ts,oh i ++ m3 js hs,n,z0⟩) μ ⟨i0,h0,Le.lit (jH h1 (jN ks)) (jM h2 (k8 js)) (Nat.le_refl _)⟩ round
section
variable {P : Program} {N : Nat} {all : Array Oper} {Q : Exit → AS → Prop} {m : Md} {rest : List Oper} {s : AS}
theorem Aw {dst:Option Tmp}{op:Op}{ty:TypeId}{pos:String}{af:Array Edge}{j d:Nat}{want:Bool}(hj:(all[j]?).bind (·.dst) = some d) (hb:lk s.ts d = some (.v undef))
  (hdN : ∀ d,dst = some d → d < N)
  (h2 : RW P N all Q (m.add [.inl d] (wD dst)) rest (put s dst (.v undef))) : RW P N all Q m (⟨dst,op,ty,pos,af,some (j,want)⟩ :: rest) s := by
 have hyl : ∀ (C : Ctx) (ι : Pl) (T : Nat → Option AV) (H : Nat → Option (List AV)) (a : Act) (w : World), T d = lk s.ts d → TG C ι T H a w → yielded all a.tmps j = none := by
  intro C ι T H a w hT g
  obtain ⟨y,hy,hr⟩ := g.tm d _ (by rw [hT]; exact hb)
  simp only [Rd] at hr
  subst hr
  simp [yielded,hj,hy,undef]
 cases m with
 | txt =>
  rintro C a w hN ⟨h0,ι,g,gh⟩
  have hyl' := hyl C ι _ _ a w rfl g
  unfold wpList
  simp only [Region.wanted,hyl']
  rw [if_neg (by simp)]
  refine h2 C _ w hN ?_
  cases hd : dst with
  | none => exact ⟨h0,ι,g,gh⟩
  | some d' =>
   refine ⟨h0,ι,?_,gh⟩
   simp only [put]
   rw [fI]
   exact g.put (hN.symm ▸ hdN d' hd) (by simp [Rd])
 | drw ks pend =>
  obtain ⟨As,S',n2,tr,hc,hn2,_,s',e1,e2,e3,hQ⟩ := h2
  refine ⟨⟨pend ++ [.inl d],zC dst (.v undef),s.nid,s.nid⟩ :: As,S',n2,.cons ?_ rfl (Nat.le_refl _) ?_,?_,hn2,fun _ => ⟨_,_,rfl,fun r hr => List.mem_append_left _ hr⟩,s',e1,e2,?_,hQ⟩
  ·intro C ι F S a w hN hag hF g gh K Q' hK
   have hT : pR S d = lk s.ts d := by rw [← jV]; simp only [pR,hag _ (List.mem_append_right _ (by simp : Sum.inl d ∈ [Sum.inl d]))]
   have hyl' := hyl C ι _ _ a w hT g
   rw [if_neg (by simp [Region.wanted,hyl'])]
   refine hK ι _ w ?_ ?_
   ·rw [kA]; exact tE g (fun x hx => hN.symm ▸ hdN x hx) (by simp [Rd])
   ·rw [kA]; exact (gh.less (fun _ _ h => h) (fun j hj => hj.1)).1
  ·rw [sU] at tr
   have hnid : (put s dst (.v undef)).nid = s.nid := by cases dst <;> rfl
   rw [hnid] at tr
   exact tr
  ·have hk : qS ⟨pend ++ [.inl d], zC dst (.v undef), s.nid, s.nid⟩ = (pend ++ [.inl d], wD dst) := by
    simp only [qS,iQ]
    congr 1
    cases dst <;> rfl
   rw [List.map_cons,hk]
   simpa using hc
  ·rw [e3]; cases dst <;> rfl
end
section
variable {P : Program} {N : Nat} {all : Array Oper} {Q : Exit → AS → Prop} {md : Md} {rest : List Oper} {ts : List (Nat × AV)} {hs : List (Nat × Option (List AV))} {n : Nat} {z0 : Lo} {ty : TypeId} {pos : String} {af : Array Edge}
theorem AR {dst:Nat}{op:Op}{j d:Nat}{want:Bool}{md':Md}[hmd:MdA md [.inl d] [.inl dst] md'] (hj:(all[j]?).bind (·.dst) = some d) (hb:lk ts d = some (.v undef)) (hN:Nat.blt dst N = true)
  (k : RW P N all Q md' rest ⟨(dst,.v undef) :: ts,hs,n,z0⟩) : RW P N all Q md (⟨some dst,op,ty,pos,af,some (j,want)⟩ :: rest) ⟨ts,hs,n,z0⟩ :=
 Aw hj hb (fun d h => by cases h;exact dX hN) (by rw [show wD (some dst) = [Sum.inl dst] from rfl,hmd.pf]; exact k)
end
section
variable {P : Program} {N : Nat} {all : Array Oper} {Q : Exit → AS → Prop} {md : Md} {rest : List Oper} {s : AS} {ty : TypeId} {pos : String} {af : Array Edge} {dst : Option Tmp} {op : Op}
theorem IB {jw:Nat × Bool}(h:RW P N all Q md (⟨dst,op,ty,pos,af,some jw⟩ :: rest) s):RW P N all Q md (⟨dst,op,ty,pos,af,some jw⟩ :: rest) s := h
theorem aF {l:List Oper}(h:RW P N all Q md l s):RW P N all Q md l s := h
theorem zH {c:Code}(h:AW P N c Q s):AW P N c Q s := h
theorem H2 {o1:BinOp}{o2:TypeId}{o3 o4:Operand}{o5:TypeId}(h:RW P N all Q md (⟨dst,.binOp o1 o2 o3 o4 o5,ty,pos,af,none⟩ :: rest) s):RW P N all Q md (⟨dst,.binOp o1 o2 o3 o4 o5,ty,pos,af,none⟩ :: rest) s := h
theorem FU {o1:TypeId}{o2:Operand}(h:RW P N all Q md (⟨dst,.load o1 o2,ty,pos,af,none⟩ :: rest) s):RW P N all Q md (⟨dst,.load o1 o2,ty,pos,af,none⟩ :: rest) s := h
theorem Ii {o1:Builtin}{o2:Array Operand}{o3:Array TypeId}(h:RW P N all Q md (⟨dst,.call ⟨.builtin o1,o2,o3⟩,ty,pos,af,none⟩ :: rest) s):RW P N all Q md (⟨dst,.call ⟨.builtin o1,o2,o3⟩,ty,pos,af,none⟩ :: rest) s := h
theorem GN {o1:TypeId}{o2 o3:Operand}(h:RW P N all Q md (⟨dst,.indexAddr o1 o2 o3,ty,pos,af,none⟩ :: rest) s):RW P N all Q md (⟨dst,.indexAddr o1 o2 o3,ty,pos,af,none⟩ :: rest) s := h
theorem EO {o1 o2 o3:Operand}(h:RW P N all Q md (⟨dst,.pick o1 o2 o3,ty,pos,af,none⟩ :: rest) s):RW P N all Q md (⟨dst,.pick o1 o2 o3,ty,pos,af,none⟩ :: rest) s := h
theorem HV {o1:TypeId}{o2:Array (Nat × Operand)}(h:RW P N all Q md (⟨dst,.build o1 o2,ty,pos,af,none⟩ :: rest) s):RW P N all Q md (⟨dst,.build o1 o2,ty,pos,af,none⟩ :: rest) s := h
theorem H4 {o1:TypeId}{o2:Operand}{o3 o4 o5:Option Operand}(h:RW P N all Q md (⟨dst,.slice o1 o2 o3 o4 o5,ty,pos,af,none⟩ :: rest) s):RW P N all Q md (⟨dst,.slice o1 o2 o3 o4 o5,ty,pos,af,none⟩ :: rest) s := h
end
section
variable {P : Program} {N : Nat} {Q : Exit → AS → Prop} {all : Array Oper} {rest : List Oper} {ts : List (Nat × AV)} {hs : List (Nat × Option (List AV))} {n : Nat} {z0 : Lo} {md : Md}
variable {d : Nat} {ty : TypeId} {pos : String} {af : Array Edge}
def nS : AV → Option (FuncId × List AV × List AV)
 | .clos (.func k) f c => some (k,f,c)
 | .v (.func (.func k) ⟨[]⟩ ⟨[]⟩) => some (k,[],[])
 | _ => none
theorem rI {w:World}{bad:Nat → Prop}{ι:Pl}{av:AV}{y:Value}{k:FuncId}{f c:List AV}(h:nS av = some (k,f,c)) (hy:Rd w bad ι av y) :
  ∃ lf lc : List Value,y = .func (.func k) lf.toArray lc.toArray ∧ RdV w bad ι f lf ∧ RdV w bad ι c lc := by
 unfold nS at h
 split at h
 ·cases h;simpa only [Rd] using hy
 ·cases h;simp only [Rd] at hy;exact ⟨[],[],hy,by simp [RdV],by simp [RdV]⟩
 ·cases h
theorem gA {w:World}{bad:Nat → Prop}{ι:Pl}:∀ {a b:List AV}{la lb:List Value},RdV w bad ι a la → RdV w bad ι b lb → RdV w bad ι (a ++ b) (la ++ lb)
 | [],b,la,lb,h1,h2 => by simp only [RdV] at h1;subst h1;exact h2
 | x :: a, b, la, lb, h1, h2 => by
  simp only [RdV] at h1
  obtain ⟨y,l',rfl,h3,h4⟩ := h1
  simp only [List.cons_append,RdV]
  exact ⟨y,_,rfl,h3,gA h4 h2⟩
theorem oN {k:FuncId}{t:Nat}{args:Array Operand}{tys:Array TypeId}(hc:eH P k = true) (dst:Option Tmp) (a:Act) (w:World){lf lc:List Value}(hy:a.eval (.tmp t) = .func (.func k) lf.toArray lc.toArray) :
  (execOp a.eval ⟨dst,.call ⟨.value (.tmp t),args,tys⟩,ty,pos,af,none⟩).run P w = .ok (.enter k (lf ++ args.toList.map a.eval ++ lc).toArray) w := by
 simp only [execOp,Sem.run_bind,resolve,hy,Deferred.ofValue,Sem.run_pure,Result.andThen_ok,invoke,vA hc]
 congr 2
 apply Array.ext'
 simp
theorem CM {k:FuncId}{t:Nat}{args:Array Operand}{tys:Array TypeId}{avs f c:List AV}{fv:AV}{r:AV}(hc:eH P k = true) (hx:lk ts t = some fv) (hcl:nS fv = some (k,f,c)) (ha:evL (lk ts) args.toList = some avs)
  (h : PC P k (f ++ avs ++ c) (fun x => x = r)) (hp : bF (f ++ avs ++ c) = true) (hN : d < N)
  (kk : RW P N all Q (md.add (rO (.tmp t) ++ fH args.toList) [.inl d]) rest ⟨(d,r) :: ts,hs,n,z0⟩) : RW P N all Q md (⟨some d,.call ⟨.value (.tmp t),args,tys⟩,ty,pos,af,none⟩ :: rest) ⟨ts,hs,n,z0⟩ := by
 refine gO (rs := rO (.tmp t) ++ fH args.toList) (ws := []) (n' := n) (out := r) rfl (Nat.le_refl _) (.inl rfl) (fun C ι F T H a w K Q' hCN ag hF g gh hK => ?_) (fun x hx => by cases hx;exact hN) kk
 obtain ⟨lf,lc,hy,h1,h2⟩ := rI hcl (bV g (x := .tmp t) (ag.l.ev.trans hx))
 simp only [Oper.wp,oN hc _ a w hy,Oper.upon]
 refine (rH h hp gh (gA (gA h1 (gF g (ag.r.evL.trans ha))) h2)).mono ?_
 rintro e w' ⟨v,r',rfl,h2,h3,h4,h5,h6⟩
 subst h2
 exact hK ι w' v (g.carry h5) (h4.less (fun _ _ h => h) (fun j hj => hj.1)).1 h6
theorem lW {k:FuncId}{t:Nat}{args:Array Operand}{tys:Array TypeId}{avs f c:List AV}{fv:AV}{r:AV}(hx:lk ts t = some fv) (hcl:nS fv = some (k,f,c)) (hc:CaT P k) (ha:evL (lk ts) args.toList = some avs)
  (h : PC P k (f ++ avs ++ c) (fun x => x = r)) (hp : bF (f ++ avs ++ c) = true) (hN : Nat.blt d N = true) {md' : Md} [hmd : MdA md (rO (.tmp t) ++ fH args.toList) [.inl d] md']
  (kk : RW P N all Q md' rest ⟨(d,r) :: ts,hs,n,z0⟩) : RW P N all Q md (⟨some d,.call ⟨.value (.tmp t),args,tys⟩,ty,pos,af,none⟩ :: rest) ⟨ts,hs,n,z0⟩ :=
 CM hc.pf hx hcl ha h hp (dX hN) (by rw [hmd.pf]; exact kk)
theorem mZ {fn:Go.Fn}{fs cs:Array Operand}{f c:List AV}(hf:evL (lk ts) fs.toList = some f) (hc:evL (lk ts) cs.toList = some c) (hN:Nat.blt d N = true){md':Md}[hmd:MdA md (fH fs.toList ++ fH cs.toList) [.inl d] md']
  (kk : RW P N all Q md' rest ⟨(d,.clos fn f c) :: ts,hs,n,z0⟩) : RW P N all Q md (⟨some d,.makeFunc fn fs cs,ty,pos,af,none⟩ :: rest) ⟨ts,hs,n,z0⟩ := by
 refine eX (out := .clos fn f c) (rs := fH fs.toList ++ fH cs.toList) rfl rfl (dX hN) (fun C ι F T H a w ag g gh => ?_) (by rw [hmd.pf]; exact kk)
 refine ⟨.func fn (fs.map a.eval) (cs.map a.eval),by simp [execOp,Instr.makeFunc],?_⟩
 simp only [Rd]
 exact ⟨fs.toList.map a.eval,cs.toList.map a.eval,by rw [← Array.toList_map,← Array.toList_map,Array.toArray_toList,Array.toArray_toList],gF g (ag.l.evL.trans hf),gF g (ag.r.evL.trans hc)⟩
end
class Sm (n : Nat) : Prop where pf : n < 2 ^ 62
def I7 (a b : Nat) : Nat := a ^^^ (a &&& b)
theorem mW (a b i:Nat):(I7 a b).testBit i = (a.testBit i && !b.testBit i):=by
 simp only [I7,Nat.testBit_xor,Nat.testBit_and]; cases a.testBit i <;> cases b.testBit i <;> rfl
instance (a b : Nat) [h : Sm a] : Sm (a >>> b):=⟨Nat.lt_of_le_of_lt (by rw [Nat.shiftRight_eq_div_pow]; exact Nat.div_le_self _ _) h.pf⟩
instance : Sm 1:=⟨by decide⟩
theorem Sm.pow {k:Nat}(h:k < 62):Sm (2 ^ k) := ⟨Nat.pow_lt_pow_right (by decide) h⟩
class K6 (k : IntKind) : Prop where pf : k = .i64 ∨ k = .u64
instance : K6 .i64:=⟨.inl rfl⟩
theorem nA {k:IntKind}[hk:K6 k] {a:Nat}(h:a < 2 ^ 62):k.wrap (a:Int) = (a:Int):=by
 rcases hk.pf with rfl|rfl
 ·exact B3 (by omega)
 ·simp only [IntKind.wrap]
  first
  | (simp [IntKind.bits,IntKind.signed]; omega)
  | omega
theorem zI {k:IntKind}[hk:K6 k]:k.bits = 64 := by rcases hk.pf with rfl | rfl <;> rfl
theorem lM (a:Nat) (h:a < 2 ^ 62):BitVec.ofInt 64 (a:Int) = BitVec.ofNat 64 a := A9 (a:Int) ⟨by omega,by omega⟩
theorem lZ (a:Nat) (h:a < 2 ^ 62):(BitVec.ofNat 64 a).toNat = a := by rw [BitVec.toNat_ofNat,Nat.mod_eq_of_lt (by omega)]
theorem Fo {k:IntKind}[hk:K6 k] (a b:Nat) [ha:Sm a] [hb:Sm b]:gI .or k a b = some (.int k ((a ||| b:Nat):Int)):=by
 simp only [gI]; rw [zI,lM a ha.pf,lM b hb.pf,BitVec.toNat_or,lZ a ha.pf,lZ b hb.pf,nA (Nat.or_lt_two_pow ha.pf hb.pf)]
theorem CF {k:IntKind}[hk:K6 k] (a b:Nat) [ha:Sm a] [hb:Sm b]:gI .and k a b = some (.int k ((a &&& b:Nat):Int)):=by
 simp only [gI]; rw [zI,lM a ha.pf,lM b hb.pf,BitVec.toNat_and,lZ a ha.pf,lZ b hb.pf,nA (Nat.and_lt_two_pow _ hb.pf)]
theorem BD {k:IntKind}[hk:K6 k] (m:Int) (h:0 ≤ m ∧ m < 62):gI .shl k 1 m = some (.int k ((2 ^ m.toNat:Nat):Int)):=by
 obtain ⟨j,rfl⟩ := Int.eq_ofNat_of_zero_le h.1
 simp only [gI]
 rw [if_neg (by omega),zI,Int.toNat_natCast,Nat.min_eq_left (by omega),Int.one_mul]
 rw [show ((2 : Int) ^ j) = ((2 ^ j : Nat) : Int) by simp,nA (Sm.pow (by omega)).pf]
theorem DE {k:IntKind}[hk:K6 k] (a:Nat) [ha:Sm a] (m:Int) (h:0 ≤ m ∧ m < 64):gI .shr k a m = some (.int k ((a >>> m.toNat:Nat):Int)):=by
 obtain ⟨j,rfl⟩ := Int.eq_ofNat_of_zero_le h.1
 simp only [gI]
 rw [if_neg (by omega),zI,Int.toNat_natCast,Nat.min_eq_left (by omega)]
 congr 2
 rw [Nat.shiftRight_eq_div_pow,Int.fdiv_eq_ediv_of_nonneg _ (by exact Int.le_of_lt (Int.pow_pos (by decide)))]
 simp
section
variable {P : Program} {N : Nat} {Q : Exit → AS → Prop} {all : Array Oper} {rest : List Oper} {ts : List (Nat × AV)} {hs : List (Nat × Option (List AV))} {n : Nat} {z0 : Lo} {md : Md}
variable {d : Nat} {ty : TypeId} {pos : String} {af : Array Edge}
theorem G7 {k:IntKind}{t t':TypeId}{x y:Operand}{a b:Nat}(hx:ev (lk ts) x = some (.v (.int k (a:Int)))) (hy:ev (lk ts) y = some (.v (.int k (b:Int)))) (hk:K6 k) (ha:Sm a) (hb:Sm b)
  (hN : Nat.blt d N = true) {md' : Md} [hmd : MdA md (rO x ++ rO y) [.inl d] md'] (kk : RW P N all Q md' rest ⟨(d,.v (.int k ((a ||| b : Nat) : Int))) :: ts,hs,n,z0⟩) : RW P N all Q md (⟨some d,.binOp .or t x y t',ty,pos,af,none⟩ :: rest) ⟨ts,hs,n,z0⟩ :=
 fF hx hy (.inl rfl) (Fo a b) (dX hN) (by rw [hmd.pf]; exact kk)
theorem zS {k k':IntKind}{t t':TypeId}{x y:Operand}{m:Int}(hx:ev (lk ts) x = some (.v (.int k 1))) (hy:ev (lk ts) y = some (.v (.int k' m))) (hk:K6 k) (h:0 ≤ m ∧ m < 62)
  (hN : Nat.blt d N = true) {md' : Md} [hmd : MdA md (rO x ++ rO y) [.inl d] md'] (kk : Sm (2 ^ m.toNat) → RW P N all Q md' rest ⟨(d,.v (.int k ((2 ^ m.toNat : Nat) : Int))) :: ts,hs,n,z0⟩) : RW P N all Q md (⟨some d,.binOp .shl t x y t',ty,pos,af,none⟩ :: rest) ⟨ts,hs,n,z0⟩ :=
 fF hx hy (.inr (.inl rfl)) (BD m h) (dX hN) (by rw [hmd.pf]; exact kk (Sm.pow (by omega)))
theorem EU {k k':IntKind}{t t':TypeId}{x y:Operand}{a:Nat}{m:Int}(hx:ev (lk ts) x = some (.v (.int k (a:Int)))) (hy:ev (lk ts) y = some (.v (.int k' m))) (hk:K6 k) (ha:Sm a) (h:0 ≤ m ∧ m < 64)
  (hN : Nat.blt d N = true) {md' : Md} [hmd : MdA md (rO x ++ rO y) [.inl d] md'] (kk : RW P N all Q md' rest ⟨(d,.v (.int k ((a >>> m.toNat : Nat) : Int))) :: ts,hs,n,z0⟩) : RW P N all Q md (⟨some d,.binOp .shr t x y t',ty,pos,af,none⟩ :: rest) ⟨ts,hs,n,z0⟩ :=
 fF hx hy (.inr (.inr rfl)) (DE a m h) (dX hN) (by rw [hmd.pf]; exact kk)
end
mutual
def qU : Stmt → Nat
 | .mk op _ _ _ th el => if op = 9 then 2 + cY th + cY el else if op = 10 then 2 + cY th else 1
def cY : List Stmt → Nat
 | [] => 0
 | s :: l => qU s + cY l
end
mutual
def zP (b : Nat) : Stmt → List Pnt
 | .mk op x y n th el =>
  if op = 9 then [⟨9,0,0,0,[(b : Int) + 1,(b : Int) + 1 + cY th + 1]⟩] ++ eY (b + 1) th ++ [⟨10,0,0,1,[(b : Int) + 2 + cY th + cY el]⟩] ++ eY (b + 2 + cY th) el
  else if op = 10 then [⟨10,0,0,0,[(b : Int) + 1,(b : Int) + 2 + cY th]⟩] ++ eY (b + 1) th ++ [⟨10,0,0,1,[(b : Int)]⟩]
  else [⟨op,x,y,n,[(b : Int) + 1]⟩]
def eY (b : Nat) : List Stmt → List Pnt
 | [] => []
 | s :: l => zP b s ++ eY (b + qU s) l
end
mutual
theorem EZ:∀ (s:Stmt) (b:Nat),(zP b s).length = qU s
 | .mk op x y n th el, b => by
  have h1 := bI th (b + 1)
  have h2 := bI el (b + 2 + cY th)
  simp only [zP,qU]
  split
  ·simp [h1,h2]; omega
  ·split
   ·simp [h1]; omega
   ·simp
theorem bI:∀ (l:List Stmt) (b:Nat),(eY b l).length = cY l
 | [],b => by simp [eY,cY]
 | s :: l,b => by simp only [eY,cY,List.length_append,EZ s b,bI l (b + qU s)]
end
mutual
theorem Hc:∀ (s:Stmt),qU s ≤ 2 * cM s
 | .mk op x y n th el => by
  have h1 := iV th
  have h2 := iV el
  simp only [qU,cM]; split
  ·omega
  ·split <;> omega
theorem iV:∀ (l:List Stmt),cY l ≤ 2 * aJ l
 | [] => by simp [cY,aJ]
 | s :: l => by have h1 := Hc s;have h2 := iV l;simp only [cY,aJ]; omega
end
theorem k4:∀ a b,cY (a ++ b) = cY a + cY b
 | [],b => by simp [cY]
 | s :: a,b => by simp only [List.cons_append,cY,k4 a b]; omega
theorem oL:∀ (a b:List Stmt) (k:Nat),eY k (a ++ b) = eY k a ++ eY (k + cY a) b
 | [],b,k => by simp [eY,cY]
 | s :: a,b,k => by simp only [List.cons_append,eY,cY,oL a b,List.append_assoc,Nat.add_assoc]
theorem eI (l:List Stmt) (b k:Nat) (hk:k < l.length):eY b (l.take (k + 1)) = eY b (l.take k) ++ zP (b + cY (l.take k)) l[k]!:=by
 rw [cO _ _ hk,oL]; simp [eY]
theorem dZ (l:List Stmt) (k:Nat) (hk:k < l.length):cY (l.take (k + 1)) = cY (l.take k) + qU l[k]!:=by
 rw [cO _ _ hk,k4]; simp [cY]
theorem wF (l:List Stmt) (k:Nat):cY (l.take k) ≤ cY l:=by
 conv => rhs;rw [← List.take_append_drop k l]
 rw [k4]; omega
theorem sD (s:Stmt):qU s = if s.op = 9 then 2 + cY s.th + cY s.el else if s.op = 10 then 2 + cY s.th else 1:=by
 cases s;simp only [qU,Stmt.op,Stmt.th,Stmt.el]; rfl
theorem fR (b:Nat) (s:Stmt):zP b s = if s.op = 9 then [⟨9,0,0,0,[(b:Int) + 1,(b:Int) + 1 + cY s.th + 1]⟩] ++ eY (b + 1) s.th ++ [⟨10,0,0,1,[(b:Int) + 2 + cY s.th + cY s.el]⟩] ++ eY (b + 2 + cY s.th) s.el
  else if s.op = 10 then [⟨10,0,0,0,[(b : Int) + 1,(b : Int) + 2 + cY s.th]⟩] ++ eY (b + 1) s.th ++ [⟨10,0,0,1,[(b : Int)]⟩]
  else [⟨s.op,s.x,s.y,s.n,[(b : Int) + 1]⟩] := by
 cases s;simp only [zP,Stmt.op,Stmt.th,Stmt.el,Stmt.x,Stmt.y,Stmt.n]; rfl
def bJ (p : Prg) : List Pnt := eY 0 p.body ++ [⟨11,0,0,0,[]⟩]
theorem oA (p:Prg):(bJ p).length = cY p.body + 1 := by simp [bJ,bI]
theorem fZ {α:Type}{f:α → List AV}{e:Nat}[h:FlT f e] {xs:List α}{m:Nat}{new:List AV}{y:α}(hm:m = xs.length) (hn:new = f y):((aA f xs).drop 0).take (m * e) ++ new = aA f (xs ++ [y]):=by
 subst hm hn
 rw [List.drop_zero,List.take_of_length_le (by rw [aI f (e := e)]; exact Nat.le_refl _),← b6,vY]
theorem D3 {xs:List Pnt}{m:Nat}{a b c d:Int}(hm:m = xs.length):((aA bZ xs).drop 0).take (m * 5) ++ [iv a,iv b,iv c,iv d,.imm 0 []] = aA bZ (xs ++ [⟨a,b,c,d,[]⟩]) := fZ hm rfl
theorem Df {xs:List Pnt}{m:Nat}{a b c d e:Int}(hm:m = xs.length):((aA bZ xs).drop 0).take (m * 5) ++ [iv a,iv b,iv c,iv d,.imm 1 [iv e]] = aA bZ (xs ++ [⟨a,b,c,d,[e]⟩]) := fZ hm rfl
theorem ES {xs:List Int}{m:Nat}{a:Int}(hm:m = xs.length):((aA cI xs).drop 0).take (m * 1) ++ [iv a] = aA cI (xs ++ [a]) := fZ hm rfl
theorem E5 (A B C new:List AV) (j:Nat) (hj:j + new.length ≤ B.length):eR (A ++ (B ++ C)) (A.length + j) new = A ++ (eR B j new ++ C):=by
 unfold eR
 rw [List.take_length_add_append,Nat.add_assoc,List.drop_length_add_append,List.take_append_of_le_length (by omega),List.drop_append_of_le_length hj]
 simp only [List.append_assoc]
theorem xJ {α:Type}[Inhabited α] {f:α → List AV}{e:Nat}[h:FlT f e] {xs:List α}{k:Nat}(hk:k < xs.length):aA f xs = aA f (xs.take k) ++ (f xs[k]! ++ aA f (xs.drop (k + 1))):=by
 rw [← e8 f (e := e) xs k hk,← eE f (e := e),List.take_append_drop]
theorem dD {α:Type}[Inhabited α] {f:α → List AV}{e:Nat}[h:FlT f e] {xs:List α}{k j:Nat}{new:List AV}{y:α}(hk:k < xs.length) (hj:j + new.length ≤ e) (hy:eR (f xs[k]!) j new = f y):eR (aA f xs) (0 + k * e + j) new = aA f (xs.set k y):=by
 have h3 : (aA f (xs.take k)).length = k * e := by rw [aI f (e := e),List.length_take]; congr 1;omega
 rw [xJ (e := e) hk,Nat.zero_add,← h3,E5 _ _ _ _ _ (by rw [h.pf]; exact hj),hy,List.set_eq_take_append_cons_drop,if_pos hk,← b6]
 simp only [aA,List.flatMap_cons]
theorem hG {α:Type}[Inhabited α] {f:α → List AV}{e:Nat}[h:FlT f e] {xs:List α}{k:Nat}{new:List AV}{y:α}(hk:k < xs.length) (hy:new = f y):eR (aA f xs) (0 + k * e) new = aA f (xs.set k y):=by
 subst hy
 rw [Nat.zero_add]; exact Cj f xs k y hk
theorem CK {xs:List Pnt}{k:Nat}{a:Int}(hk:k < xs.length):eR (aA bZ xs) (0 + k * 5 + 4) [.imm 1 [iv a]] = aA bZ (xs.set k { xs[k]! with next := [a] }) := dD hk (by simp) rfl
theorem Cw {xs:List Pnt}{k:Nat}{a b:Int}(hk:k < xs.length):eR (aA bZ xs) (0 + k * 5 + 4) [.imm 2 [iv a,iv b]] = aA bZ (xs.set k { xs[k]! with next := [a,b] }) := dD hk (by simp) rfl
theorem HO {xs:List Int}{k:Nat}{a:Int}(hk:k < xs.length):eR (aA cI xs) (0 + k * 1) [iv a] = aA cI (xs.set k a) := hG hk rfl
theorem EI {xs:List Bool}{k:Nat}{a:Bool}(hk:k < xs.length):eR (aA cB xs) (0 + k * 1) [bv a] = aA cB (xs.set k a) := hG hk rfl
theorem Cx (s:Stmt):s.op = 9 → qU s = 2 + cY s.th + cY s.el := by intro h;rw [sD,if_pos h]
theorem yL (s:Stmt):s.op = 10 → qU s = 2 + cY s.th := by intro h;rw [sD,if_neg (by omega),if_pos h]
theorem BT (s:Stmt):¬ s.op = 9 → ¬ s.op = 10 → qU s = 1 := by intro h h2;rw [sD,if_neg h,if_neg h2]
theorem xX (l:List Stmt) (k:Nat):k < l.length → cY (l.take k) + qU l[k]! ≤ cY l:=by
 intro h;have := wF l (k + 1);rw [dZ l k h] at this;exact this
theorem tK {α:Type}(A:List α) (x y:α) (B:List α):(A ++ x :: B).set A.length y = A ++ y :: B:=by
 rw [List.set_append_right _ _ (Nat.le_refl _),Nat.sub_self,List.set_cons_zero]
theorem rX {α:Type}[Inhabited α] (A:List α) (x:α) (B:List α):(A ++ x :: B)[A.length]! = x:=by
 rw [aW _ _ (by simp),List.getElem_append_right (Nat.le_refl _)]; simp
theorem tJ {xs T E:List Pnt}{p q:Pnt}{m:Nat}(hm:m = xs.length):(xs ++ [p] ++ T ++ [q] ++ E)[m]! = p:=by
 subst hm;simp only [List.append_assoc,List.singleton_append,List.cons_append,List.nil_append]; exact rX _ _ _
theorem rQ {xs T E:List Pnt}{p q p':Pnt}{m:Nat}(hm:m = xs.length):(xs ++ [p] ++ T ++ [q] ++ E).set m p' = xs ++ [p'] ++ T ++ [q] ++ E:=by
 subst hm;simp only [List.append_assoc,List.singleton_append,List.cons_append,List.nil_append]; exact tK _ _ _ _
theorem sX {xs T E:List Pnt}{p q:Pnt}{j:Nat}(hj:j = xs.length + 1 + T.length):(xs ++ [p] ++ T ++ [q] ++ E)[j]! = q:=by
 have h : j = (xs ++ [p] ++ T).length := by simp [hj]; omega
 subst h
 rw [show xs ++ [p] ++ T ++ [q] ++ E = (xs ++ [p] ++ T) ++ q :: E by simp]; exact rX _ _ _
theorem rV {xs T E:List Pnt}{p q q':Pnt}{j:Nat}(hj:j = xs.length + 1 + T.length):(xs ++ [p] ++ T ++ [q] ++ E).set j q' = xs ++ [p] ++ T ++ [q'] ++ E:=by
 have h : j = (xs ++ [p] ++ T).length := by simp [hj]; omega
 subst h
 rw [show xs ++ [p] ++ T ++ [q] ++ E = (xs ++ [p] ++ T) ++ q :: E by simp,tK]; simp
theorem yP {xs T:List Pnt}{p q:Pnt}{m:Nat}(hm:m = xs.length):(xs ++ [p] ++ T ++ [q])[m]! = p:=by
 subst hm;simp only [List.append_assoc,List.singleton_append,List.cons_append,List.nil_append]; exact rX _ _ _
theorem wV {xs T:List Pnt}{p q p':Pnt}{m:Nat}(hm:m = xs.length):(xs ++ [p] ++ T ++ [q]).set m p' = xs ++ [p'] ++ T ++ [q]:=by
 subst hm;simp only [List.append_assoc,List.singleton_append,List.cons_append,List.nil_append]; exact tK _ _ _ _
structure WG (ts : List Int) (pts : List Pnt) : Prop where
 tl : ts.length ≤ 6
 ty : ∀ v,v < ts.length → 1 ≤ ts[v]! ∧ ts[v]! ≤ 4
 pl : pts.length ≤ 61
 p0 : 0 < pts.length
 nx : ∀ i,i < pts.length → ∀ k ∈ pts[i]!.next,0 ≤ k ∧ k < pts.length
 nl : ∀ i,i < pts.length → pts[i]!.next.length ≤ 2
 op : ∀ i,i < pts.length → 1 ≤ pts[i]!.op ∧ pts[i]!.op ≤ 11
 x : ∀ i,i < pts.length → 0 ≤ pts[i]!.x ∧ (pts[i]!.op ≤ 8 → pts[i]!.x < ts.length)
 y : ∀ i,i < pts.length → 0 ≤ pts[i]!.y ∧ (3 ≤ pts[i]!.op → pts[i]!.op ≤ 7 → pts[i]!.y < ts.length)
def H5 (nv b e : Nat) (x : Pnt) : Prop := (∀ k ∈ x.next,0 ≤ k ∧ k < (e : Int)) ∧ x.next.length ≤ 2 ∧ 1 ≤ x.op ∧ x.op ≤ 11 ∧ 0 ≤ x.x ∧ (x.op ≤ 8 → x.x < (nv : Int)) ∧ 0 ≤ x.y ∧ (3 ≤ x.op → x.op ≤ 7 → x.y < (nv : Int))
theorem yC {ts:List Int}(ht:bO ts = true){s:Stmt}(h:dC ts s = true):1 ≤ s.op ∧ s.op ≤ 8 ∧ 0 ≤ s.x ∧ s.x < ts.length ∧ 0 ≤ s.y ∧ (3 ≤ s.op → s.op ≤ 7 → s.y < ts.length):=by
 have hx := oY ht s.x
 have hy := oY ht s.y
 have bx := fT ht s.x
 have by' := fT ht s.y
 unfold dC at h
 dsimp only at h
 repeat' split at h
 all_goals first
  | (simp only [decide_eq_true_eq] at h;omega)
  | (cases h;done)
mutual
theorem Ha {ts:List Int}(ht:bO ts = true):∀ (s:Stmt) (d b e:Nat),pT ts d s = true → b + qU s < e → ∀ x ∈ zP b s,H5 ts.length b e x
 | .mk op x y n th el, d, b, e, h, hb => by
  simp only [pT] at h
  split at h
  ·rename_i hop
   simp only [Bool.and_eq_true] at h
   have hs := yC ht h.2
   simp only [Stmt.op,Stmt.x,Stmt.y] at hs
   simp only [qU,hop.1,hop.2,if_false] at hb
   simp only [zP,hop.1,hop.2,if_false,List.mem_singleton]
   rintro z rfl
   refine ⟨?_,by simp,hs.1,by show op ≤ 11;omega,hs.2.2.1,fun _ => hs.2.2.2.1,hs.2.2.2.2.1,hs.2.2.2.2.2⟩
   simp only [List.mem_singleton]; rintro k rfl;omega
  ·rename_i hop
   cases d with
   | zero => cases h
   | succ d =>
    simp only [Bool.and_eq_true,decide_eq_true_eq] at h
    obtain ⟨⟨⟨_,_⟩,h1⟩,h2⟩ := h
    by_cases h9 : op = 9
    ·subst h9
     simp only [qU,if_true] at hb
     simp only [zP,if_true,List.mem_append,List.mem_singleton]
     rintro z (((rfl|hz)|rfl)|hz)
     ·refine ⟨?_, by simp, by simp, by simp, by simp, by simp, by simp, by simp⟩
      simp only [List.mem_cons,List.not_mem_nil,or_false]; rintro k (rfl|rfl) <;> omega
     ·exact oJ ht th d (b + 1) e h1 (by omega) z hz
     ·refine ⟨?_, by simp, by simp, by simp, by simp, by simp, by simp, by simp⟩
      simp only [List.mem_singleton]; rintro k rfl;omega
     ·exact oJ ht el d (b + 2 + cY th) e h2 (by omega) z hz
    ·have h10 : op = 10 := by omega
     subst h10
     simp only [qU,if_true,show ((10 : Int) = 9) = False by simp,if_false] at hb
     simp only [zP,if_true,show ((10 : Int) = 9) = False by simp,if_false,List.mem_append,List.mem_singleton]
     rintro z ((rfl|hz)|rfl)
     ·refine ⟨?_, by simp, by simp, by simp, by simp, by simp, by simp, by simp⟩
      simp only [List.mem_cons,List.not_mem_nil,or_false]; rintro k (rfl|rfl) <;> omega
     ·exact oJ ht th d (b + 1) e h1 (by omega) z hz
     ·refine ⟨?_, by simp, by simp, by simp, by simp, by simp, by simp, by simp⟩
      simp only [List.mem_singleton]; rintro k rfl;omega
theorem oJ {ts:List Int}(ht:bO ts = true):∀ (l:List Stmt) (d b e:Nat),okL ts d l = true → b + cY l < e → ∀ x ∈ eY b l,H5 ts.length b e x
 | [],d,b,e,h,hb => by simp [eY]
 | s :: l, d, b, e, h, hb => by
  simp only [okL,Bool.and_eq_true] at h
  simp only [cY] at hb
  simp only [eY,List.mem_append]
  rintro x (hx|hx)
  ·exact Ha ht s d b e h.1 (by omega) x hx
  ·exact oJ ht l d (b + qU s) e h.2 (by omega) x hx
end
theorem WG.of_valid {p:Prg}(h:cL p = true):WG p.types (bJ p):=by
 unfold cL at h
 simp only [Bool.and_eq_true,decide_eq_true_eq] at h
 obtain ⟨⟨ht,hl⟩,hc⟩ := h
 have hn := iV p.body
 have hlen := oA p
 have key : ∀ i, i < (bJ p).length → H5 p.types.length 0 (bJ p).length (bJ p)[i]! := by
  intro i hi
  have hm := aY _ i hi
  unfold bJ at hm
  rw [List.mem_append,List.mem_singleton] at hm
  rcases hm with hm|hm
  ·exact oJ ht p.body 4 0 _ hl (by omega) _ hm
  ·unfold bJ;rw [hm]; exact ⟨by simp,by simp,by simp,by simp,by simp,by simp,by simp,by simp⟩
 exact ⟨jL ht, kU ht, by omega, by omega, fun i hi => (key i hi).1, fun i hi => (key i hi).2.1, fun i hi => ⟨(key i hi).2.2.1, (key i hi).2.2.2.1⟩,
  fun i hi => ⟨(key i hi).2.2.2.2.1,(key i hi).2.2.2.2.2.1⟩,fun i hi => ⟨(key i hi).2.2.2.2.2.2.1,(key i hi).2.2.2.2.2.2.2⟩⟩
inductive Clo {α : Type} (S : α → Prop) (R : α → α → Prop) : α → Prop
 | base {a : α} (h : S a) : Clo S R a
 | step {a b : α} (h : Clo S R a) (r : R a b) : Clo S R b
theorem Clo.sub {α:Type}{S:α → Prop}{R:α → α → Prop}{T:α → Prop}(h1:∀ a,S a → T a) (h2:∀ a b,T a → R a b → T b):∀ a,Clo S R a → T a:=by
 intro a h
 induction h with
 | base h => exact h1 _ h
 | step _ r ih => exact h2 _ _ ih r
def eT (pts : List Pnt) (i k : Nat) : Prop := i < pts.length ∧ (k : Int) ∈ pts[i]!.next
def Mb (ts : List Int) (pts : List Pnt) (a : Nat × Nat) : Prop := Clo (fun a => ∃ i,eT pts i a.1 ∧ aU pts[i]! = a.2) (fun a b => b.2 = a.2 ∧ eT pts a.1 b.1 ∧ aV ts pts[a.1]! a.2 ≠ 2) a
def Na (ts : List Int) (pts : List Pnt) (a : Nat × Nat) : Prop := Clo (fun a => a.2 < ts.length ∧ (a.1 = 0 ∨ ∃ i,eT pts i a.1 ∧ aV ts pts[i]! a.2 = 2 ∧ aU pts[i]! ≠ a.2)) (fun a b => b.2 = a.2 ∧ eT pts a.1 b.1 ∧ aU pts[a.1]! ≠ a.2) a
def Nd (ts : List Int) (pts : List Pnt) (a : Nat × Nat) : Prop := Clo (fun a => a.1 < pts.length ∧ a.2 < ts.length ∧ aV ts pts[a.1]! a.2 ≠ 0) (fun a b => b.2 = a.2 ∧ eT pts b.1 a.1 ∧ aU pts[b.1]! ≠ a.2) a
def Lv (ts : List Int) (pts : List Pnt) (i v : Nat) : Prop := ∃ k,eT pts i k ∧ Nd ts pts (k,v)
def m8 (x : Pnt) : Bool := decide (x.op = 4) || decide (x.op = 5)
def Io (ts : List Int) (pts : List Pnt) (a : Nat × Nat × Nat) : Prop := Clo (fun a => eT pts a.2.2 a.1 ∧ m8 pts[a.2.2]! = true ∧ aU pts[a.2.2]! = a.2.1)
 (fun a b => b.2.2 = a.2.2 ∧ eT pts a.1 b.1 ∧ ((aU pts[a.1]! ≠ b.2.1 ∧ b.2.1 = a.2.1 ∧ aV ts pts[a.1]! a.2.1 ≠ 2) ∨
  (aU pts[a.1]! = b.2.1 ∧ (a.2.1 : Int) = pts[a.1]!.y ∧ ((m8 pts[a.1]! = true ∧ nY ts[a.2.1]! = true) ∨ pts[a.1]!.op = 3)))) a
def Iy (ts : List Int) (pts : List Pnt) (a : Nat × Nat) : Prop := Clo (fun a => eT pts a.2 a.1 ∧ m8 pts[a.2]! = true)
 (fun a b => b.2 = a.2 ∧ eT pts a.1 b.1 ∧ aV ts pts[a.1]! pts[a.2]!.y ≠ 2 ∧ aU pts[a.1]! ≠ pts[a.2]!.y) a
def dT (f : Nat → Bool) : Nat → Nat
 | 0 => 0
 | n + 1 => dT f n ||| (if f n then 2 ^ n else 0)
theorem dN (f:Nat → Bool):∀ (n i:Nat),(dT f n).testBit i = (decide (i < n) && f i)
 | 0,i => by simp [dT]
 | n + 1, i => by
  rw [dT,Nat.testBit_or,dN f n i]
  by_cases h : i = n
  ·subst h;cases hf : f i <;> simp [Nat.testBit_two_pow_self]
  ·have : ((if f n = true then 2 ^ n else 0).testBit i) = false := by
    split
    ·exact Nat.testBit_two_pow_of_ne (fun e => h e.symm)
    ·simp
   rw [this,Bool.or_false]
   congr 1
   simp only [decide_eq_decide]; omega
theorem AN (f:Nat → Bool) (n:Nat):dT f n < 2 ^ n:=by
 apply Nat.lt_pow_two_of_testBit
 intro i hi
 rw [dN]; simp;omega
theorem c8 {f:Nat → Bool}{n:Nat}(h:n ≤ 62):Sm (dT f n) := ⟨Nat.lt_of_lt_of_le (AN f n) (Nat.pow_le_pow_right (by decide) h)⟩
abbrev aG (ts : List Int) (bd : List Stmt) (pts : List Pnt) : AV := .iptr [sl cI ts,sl aP bd,sl bZ pts]
def tI (t : Int) : Bool := decide (t = 2) || decide (t = 4)
def wS (ts : List Int) (x : Pnt) (us : List Int) : Nat := dT (fun v => decide (aV ts x v ∈ us)) ts.length
def Hf (x : Pnt) : Nat := if 0 ≤ aU x then 2 ^ (aU x).toNat else 0
theorem wE (ts:List Int) (x:Pnt) (v:Int):0 ≤ aV ts x v ∧ aV ts x v ≤ 3:=by
 unfold aV;grind
theorem WG.set {ts:List Int}{pts:List Pnt}(h:WG ts pts) (i:Nat) (hi:i < pts.length):aU pts[i]! < ts.length ∧ (0 ≤ aU pts[i]! ∨ aU pts[i]! = -1):=by
 have := h.x i hi
 have := h.tl
 unfold aU;split <;> omega
theorem vZ (f:Nat → Bool) (k:Nat) (h:f k = true):dT f k ||| 2 ^ k = dT f (k + 1) := by rw [dT,if_pos h]
theorem uE (f:Nat → Bool) (k:Nat) (h:f k = false):dT f k = dT f (k + 1) := by rw [dT,if_neg (by simp [h]),Nat.or_zero]
end Go.AL
