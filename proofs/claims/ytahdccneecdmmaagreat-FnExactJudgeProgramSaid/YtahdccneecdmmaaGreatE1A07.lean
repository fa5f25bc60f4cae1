/-
 A part of the proofs over this program: rules and contracts of its functions (the rules).
-/
import Derived.Test.YtahdccneecdmmaaGreatE1A06
import Derived.MapKept
import Derived.Orders
set_option linter.unusedVariables false
set_option linter.unusedSimpArgs false
namespace Go.AL
open Go.RowKit
section
variable {P : Program} {C : Ctx} {ι : Pl} {T : Nat → Option AV} {F : Nat → Prop} {H : Nat → Option (List AV)} {a : Act} {w : World} {o : Oper}
theorem AU {bad:Nat → Prop}{zs:List Value}(h:zs.all (·.oneCell') = true):∀ n,RdL w bad ι (List.replicate n (zs.map AV.v)).flatten (List.replicate n zs).flatten
 | 0 => by simp [RdL]
 | n + 1 => by
  rw [List.replicate_succ,List.replicate_succ,List.flatten_cons,List.flatten_cons]
  exact RdL.append (sC h) (AU h n)
theorem Fo (gh:HG C ι F H w){t el:TypeId}{x:Operand}{id off n e:Nat}{cs:List AV}{zs:List Value}
  (ho : o.op = .call ⟨.builtin .clear,#[x],#[t]⟩) (hx : Rd w (aK C.X ι H) ι (.own id off n e) (a.eval x)) (hd : o.dst = none)
  (ht : mW P t = some el) (he : fI P el = some e) (hz : o8 P el = some zs) (hze : zs.length = e)
  (hH : H id = some cs) (h0 : 0 < n) (hl : off + n * e ≤ cs.length) :
  Ef P C ι F H a w o (.tup []) (dU H id (some (gQ cs off (List.replicate n (zs.map AV.v)).flatten))) := by
 obtain ⟨i,z,h1,h2,h3,h4⟩ := pR hz
 have hu := kG ht
 have hsz := xD he h1
 simp only [Rd] at hx
 rcases hx with ⟨_,rfl,_⟩ | ⟨b,β,c,p1,p2,p3,p4⟩
 ·omega
 have hlen : ((List.replicate n (zs.map AV.v)).flatten).length = n * e := by
  rw [List.length_flatten]; simp [hze]
 obtain ⟨w',q1,q2,q3⟩ := yV (P := P) gh hH p1 (off := off) (new := (List.replicate n (zs.map AV.v)).flatten) (by rw [hlen]; exact hl) (AU h4 n)
 have hr : (Builtin.clear_ #[t] o.type #[a.eval x]).run P w = .ok (.tuple #[]) w' := by
  rw [p2]
  cases n with
  | zero => omega
  | succ n =>
   have hzc : (Builtin.zeroCells z.cells (n + 1)).toList = (List.replicate (n + 1) zs).flatten := by rw [r8,h3]
   simp [Builtin.clear_,cG hu,zeroValue,typeInfo,h1,h2,hzc,q1]
 refine ⟨.value (.tuple #[]),.tuple #[],ι,w',?_,.inl ⟨rfl,?_⟩,q2,q3⟩
 ·simp [execOp,ho,resolve,invoke,builtin,hr]
 ·simp only [Rd]; exact ⟨[],rfl,by simp [RdV]⟩
end
section
variable {P : Program} {N : Nat} {Q : Exit → AS → Prop} {all : Array Oper} {rest : List Oper} {ts : List (Nat × AV)} {hs : List (Nat × Option (List AV))} {n : Nat} {z0 : Lo} {md : Md}
variable {d : Nat} {ty : TypeId} {pos : String} {af : Array Edge}
theorem FX {t el id off m e:Nat}{x:Operand}{cs cs':List AV}{zs:List Value}[ht:SlT P t el] [he:SzT P el e] [hz:ZrT P el zs]
  (hx : ev (lk ts) x = some (.own id off m e)) (hze : zs.length = e) (h0 : 0 < m) (hH : aO hs id = some cs) (hl : off + m * e ≤ cs.length)
  (hcs : gQ cs off (List.replicate m (zs.map AV.v)).flatten = cs') {md' : Md} [hmd : MdA md (rO x ++ [.inr id]) [.inr id] md'] (kk : RW P N all Q md' rest ⟨ts,(id,some cs') :: hs,n,z0⟩) :
  RW P N all Q md (⟨none,.call ⟨.builtin .clear,#[x],#[t]⟩,ty,pos,af,none⟩ :: rest) ⟨ts,hs,n,z0⟩ := by
 subst hcs
 exact C3 (rs := rO x ++ [.inr id]) (ws := [(id, some (gQ cs off (List.replicate m (zs.map AV.v)).flatten))]) (n' := n) (out := .tup []) rfl (fun _ h => by cases h) (Nat.le_refl n) (.inl rfl)
  (fun C ι F T H a w ag hF g gh => Dl (Fo gh rfl (bZ g (ag.l.ev.trans hx)) rfl ht.pf he.pf hz.pf hze ((ag.r.h id (by simp)).trans hH) h0 hl)) (by
   show RW P N all Q (md.add (rO x ++ [.inr id]) [.inr id]) rest ⟨ts,(id,some (gQ cs off (List.replicate m (zs.map AV.v)).flatten)) :: hs,n,z0⟩
   rw [hmd.pf]; exact kk)
end
end Go.AL
namespace Go.AL
section
variable {P : Program} {N : Nat} {Q : Exit → AS → Prop} {all : Array Oper} {rest : List Oper} {ts : List (Nat × AV)} {hs : List (Nat × Option (List AV))} {n : Nat} {z0 : Lo} {md : Md}
variable {d : Nat} {ty : TypeId} {pos : String} {af : Array Edge}
theorem uV (w:World) (t el:TypeId) (hu:P.underlying t = some (.slice el)) (a:Option Addr) (m c:Nat):(binOp .eql t (.slice a m c) (.slice none 0 0)).run P w = .ok (.bool a.isNone) w:=by
 have h0 : ∀ d : Nat, (Op.equalIn (d + 1) t (.slice a m c) (.slice none 0 0)).run P w = .ok a.isNone w := fun d => by
  cases a <;> simp [Op.equalIn,cG hu]
 have h := h0 9999
 simp only [binOp]
 simp [Op.equal,Op.maxDepth,h]
theorem zC {t t' el:TypeId}{x:Operand}{m:Nat}{cs:List AV}[ht:SlT P t el] (hx:ev (lk ts) x = some (.imm m cs)) (hN:Nat.blt d N = true)
  (kk : ∀ b : Bool,(b = true → m = 0) → RW P N all Q .txt rest ⟨(d,.v (.bool b)) :: ts,hs,n,z0⟩) : RW P N all Q .txt (⟨some d,.binOp .eql t x (.const (.slice none 0 0)) t',ty,pos,af,none⟩ :: rest) ⟨ts,hs,n,z0⟩ := by
 rintro C a w hCN ⟨h0,ι,g,gh⟩
 refine wpList_plain rfl (fun K hK => ?_)
 have h1 := bZ g hx
 simp only [Rd] at h1
 obtain ⟨a',c,h2,h3⟩ := h1
 have hu := kG ht.pf
 have hb : a'.isNone = true → m = 0 := fun hn => by
  rcases h3 with h3 | ⟨b,o,_,rfl,_⟩
  ·exact h3
  ·cases hn
 have hg : (eqGuard .eql t x (.const (.slice none 0 0)) (.slice a' m c) (.slice none 0 0)).run P w = .ok () w := by simp [eqGuard]
 have hr : (execOp a.eval ⟨some d, .binOp .eql t x (.const (.slice none 0 0)) t', ty, pos, af, none⟩).run P w = .ok (.value (.bool a'.isNone)) w := by
  have e2 : a.eval (.const (.slice none 0 0)) = .slice none 0 0 := rfl
  simp only [execOp,h2,e2,Sem.run_bind,hg,Result.andThen_ok,uV w t el hu,Sem.run_pure]
 simp only [Oper.wp,hr,Oper.upon]
 refine hK _ _ (kk a'.isNone hb C _ _ hCN ⟨h0,ι,?_,gh⟩)
 show TG C ι (lk ((d,AV.v (.bool a'.isNone)) :: ts)) _ _ _
 rw [jM]
 exact g.put (by have := dN hN;omega) (by simp [Rd])
end
theorem CJ {α:Type}{f:α → List AV}{e:Nat}[h:FlT f e] {hs:List (Nat × Option (List AV))}{xs:List α}{i k n:Nat}(hH:aO hs i = some (flat f xs)) (hn:n = xs.length - k):sCells (aO hs) e (uY (.own i (0 + k * e) n e)) = some (n,flat f (xs.drop k)):=by
 show ((aO hs i).bind fun cs => if n * e ≤ (cs.drop (0 + k * e)).length then some (n,(cs.drop (0 + k * e)).take (n * e)) else none) = _
 rw [hH,Option.bind_some,Nat.zero_add]
 have h1 : (flat f xs).length = xs.length * e := aI f xs
 have h3 : (flat f xs).drop (k * e) = flat f (xs.drop k) := by
  have h4 : flat f xs = flat f (xs.take k) ++ flat f (xs.drop k) := by rw [cP,List.take_append_drop]
  have h5 : (flat f (xs.take k)).length = (xs.take k).length * e := aI f _
  by_cases hk : k ≤ xs.length
  ·rw [h4,← show (flat f (xs.take k)).length = k * e from by rw [h5,List.length_take]; congr 1;omega,List.drop_left]
  ·rw [List.drop_of_length_le (by rw [h1]; exact Nat.mul_le_mul_right _ (by omega)),List.drop_of_length_le (by omega)]; rfl
 rw [h3]
 have h2 : (flat f (xs.drop k)).length = (xs.length - k) * e := by rw [aI f (e := e),List.length_drop]
 rw [h2,hn,if_pos (Nat.le_refl _),List.take_of_length_le (by rw [h2]; exact Nat.le_refl _)]
theorem pL {T:Nat → Option AV}{x:Operand}{dd:Nat}{k:IntKind}{m:Int}{h:Nat}(hx:ev T x = some (.v (.int k m))) (e:m = (h:Int)):kS T (some x) dd = some h:=by
 simp only [kS,hx]; rw [if_pos (by omega)]; congr 1;omega
structure Tg where
 id : Int
 uq : Bool
 deriving Inhabited,DecidableEq
structure Cl where
 val : Int
 alive : Bool
 next : Int
 stk : List Tg
 deriving Inhabited,DecidableEq
structure Pt where
 cell : Int
 tag : Int
 deriving Inhabited,DecidableEq
structure Sl where
 set : Bool
 num : Int
 ptr : Pt
 deriving Inhabited,DecidableEq
def b8 (t : Tg) : List AV := [iv t.id,bv t.uq]
def bG (c : Cl) : List AV := [iv c.val,bv c.alive,iv c.next,sl b8 c.stk]
def c6 (s : Sl) : List AV := [bv s.set,iv s.num,iv s.ptr.cell,iv s.ptr.tag]
instance : FlT b8 2:=⟨fun _ => rfl⟩
instance : FlT bG 4:=⟨fun _ => rfl⟩
instance : FlT c6 4:=⟨fun _ => rfl⟩
instance : FE b8 (fun t => [iv t.id,bv t.uq]):=⟨fun _ => rfl⟩
instance : FE bG (fun c => [iv c.val,bv c.alive,iv c.next,sl b8 c.stk]):=⟨fun _ => rfl⟩
instance : FE c6 (fun s => [bv s.set,iv s.num,iv s.ptr.cell,iv s.ptr.tag]):=⟨fun _ => rfl⟩
instance (t : Tg) : Pur (b8 t):=⟨rfl⟩
instance (c : Cl) : Pur (bG c):=⟨by show (true && (true && (true && ((sl b8 c.stk).pur && true)))) = true;rw [a6]; rfl⟩
instance (s : Sl) : Pur (c6 s):=⟨rfl⟩
abbrev NN (t : Tg) : AV := .agg [iv t.id,bv t.uq]
abbrev NP (c : Cl) : AV := .agg [iv c.val,bv c.alive,iv c.next,sl b8 c.stk]
abbrev mQ (p : Pt) : AV := .agg [iv p.cell,iv p.tag]
abbrev GG (s : Sl) : AV := .agg [bv s.set,iv s.num,iv s.ptr.cell,iv s.ptr.tag]
structure OkC (c : Cl) : Prop where
 v : 0 ≤ c.val ∧ c.val ≤ 9
 n : 1 ≤ c.next ∧ c.next ≤ 1000
 l : 1 ≤ c.stk.length ∧ c.stk.length ≤ 200
 u : c.stk[0]!.uq = true
 i : ∀ t ∈ c.stk,0 ≤ t.id ∧ t.id < c.next
 d : (c.stk.map (·.id)).Nodup
structure OkM (m : List Cl) : Prop where
 l : m.length ≤ 200
 c : ∀ c ∈ m,OkC c
def cA (stk : List Tg) (id : Int) : Int := match stk.findIdx? (fun t => decide (t.id = id)) with | some k => k | none => -1
theorem eG (stk:List Tg) (id:Int):-1 ≤ cA stk id ∧ cA stk id < stk.length:=by
 unfold cA
 split
 ·rename_i k h
  obtain ⟨h1,_⟩ := List.findIdx?_eq_some_iff_getElem.1 h
  omega
 ·omega
theorem Iq {stk:List Tg}{id:Int}(h:0 ≤ cA stk id):stk[(cA stk id).toNat]!.id = id:=by
 unfold cA at h ⊢
 split
 ·rename_i k hk
  obtain ⟨h1,h2,_⟩ := List.findIdx?_eq_some_iff_getElem.1 hk
  rw [Int.toNat_natCast,a8 _ _ h1]
  simpa using h2
 ·rename_i hk;rw [hk] at h;dsimp only at h;omega
theorem pJ {stk:List Tg}{id:Int}:cA stk id < 0 ↔ ∀ t ∈ stk,t.id ≠ id:=by
 unfold cA
 split
 ·rename_i k hk
  obtain ⟨h1,h2,_⟩ := List.findIdx?_eq_some_iff_getElem.1 hk
  refine ⟨fun h => by omega,fun h => ?_⟩
  exact absurd (by simpa using h2) (h _ (List.getElem_mem h1))
 ·rename_i hk
  rw [List.findIdx?_eq_none_iff] at hk
  exact ⟨fun _ t ht => by simpa using hk t ht,fun _ => by omega⟩
def gE (stk : List Tg) (k : Nat) (wr : Bool) : List Tg := if wr = true then stk.take (k + 1) else stk.take (k + 1) ++ (stk.drop (k + 1)).filter (fun t => !t.uq)
def bC (m : List Cl) (x : Pt) (wr : Bool) : Int :=
 if ¬ (0 ≤ x.cell ∧ x.cell < m.length) then 4
 else if m[x.cell.toNat]!.alive = false then 1
 else if cA m[x.cell.toNat]!.stk x.tag < 0 then 2
 else if wr = true ∧ m[x.cell.toNat]!.stk[(cA m[x.cell.toNat]!.stk x.tag).toNat]!.uq = false then 3
 else 0
def sB (c : Cl) (x : Pt) (wr : Bool) : Cl := { c with stk := gE c.stk (cA c.stk x.tag).toNat wr }
def dO (m : List Cl) (x : Pt) (wr : Bool) : List Cl := if bC m x wr = 0 then m.set x.cell.toNat (sB m[x.cell.toNat]! x wr) else m
def nS (m : List Cl) (x : Pt) : Int := if bC m x false = 0 then m[x.cell.toNat]!.val else 0
def uZ (m : List Cl) (x : Pt) (v : Int) : Int := if 0 ≤ v ∧ v ≤ 9 then bC m x true else 4
def Az (m : List Cl) (x : Pt) (v : Int) : List Cl := if uZ m x v = 0 then m.set x.cell.toNat { sB m[x.cell.toNat]! x true with val := v } else m
def kZ (m : List Cl) (x : Pt) : List Cl := if bC m x true = 0 then m.set x.cell.toNat { sB m[x.cell.toNat]! x true with alive := false } else m
def DY (c : Cl) : Prop := c.stk.length = 200 ∨ c.next = 1000
instance (c : Cl) : Decidable (DY c) := by unfold DY;infer_instance
def lT (m : List Cl) (x : Pt) (u : Bool) : Int := if bC m x u = 0 then (if DY (sB m[x.cell.toNat]! x u) then 4 else 0) else bC m x u
def psh (c : Cl) (u : Bool) : Cl := { c with stk := c.stk ++ [⟨c.next,u⟩],next := c.next + 1 }
def nA (m : List Cl) (x : Pt) (u : Bool) : List Cl := if lT m x u = 0 then m.set x.cell.toNat (psh (sB m[x.cell.toNat]! x u) u) else m
def qV (m : List Cl) (x : Pt) (u : Bool) : Pt := if lT m x u = 0 then ⟨x.cell,m[x.cell.toNat]!.next⟩ else ⟨0,0⟩
def uP (v : Int) : Cl := ⟨v,true,1,[⟨0,true⟩]⟩
theorem tchS_sub {stk:List Tg}{k:Nat}{wr:Bool}:(gE stk k wr).Sublist stk:=by
 unfold gE
 split
 ·exact List.take_sublist _ _
 ·have h := List.Sublist.append (List.Sublist.refl (stk.take (k + 1))) (List.filter_sublist (l := stk.drop (k + 1)) (p := fun t => !t.uq))
  rwa [List.take_append_drop] at h
theorem Ec {stk:List Tg}{k:Nat}{wr:Bool}(h:0 < stk.length):(gE stk k wr)[0]! = stk[0]! ∧ 0 < (gE stk k wr).length:=by
 cases stk with
 | nil => simp at h
 | cons a l =>
  unfold gE
  split <;> simp
theorem OkC.tch {c:Cl}(h:OkC c) (x:Pt) (wr:Bool):OkC (sB c x wr):=by
 have hs := tchS_sub (stk := c.stk) (k := (cA c.stk x.tag).toNat) (wr := wr)
 have hh := Ec (k := (cA c.stk x.tag).toNat) (wr := wr) (stk := c.stk) (by have := h.l;omega)
 refine ⟨h.v,h.n,⟨hh.2,Nat.le_trans hs.length_le h.l.2⟩,?_,fun t ht => h.i t (hs.subset ht),(hs.map _).nodup h.d⟩
 show (gE c.stk (cA c.stk x.tag).toNat wr)[0]!.uq = true
 rw [hh.1]; exact h.u
theorem OkC.psh {c:Cl}(h:OkC c) (u:Bool) (hf:¬ DY c):OkC (psh c u):=by
 have hl := h.l
 have hn := h.n
 unfold DY at hf
 refine ⟨h.v,by show 1 ≤ c.next + 1 ∧ c.next + 1 ≤ 1000;omega,by show 1 ≤ (c.stk ++ [_]).length ∧ (c.stk ++ [_]).length ≤ 200;rw [List.length_append,List.length_singleton]; omega,?_,fun t ht => ?_,?_⟩
 ·show (c.stk ++ [_])[0]!.uq = true
  have h1 := h.u
  rw [a8 _ _ (by omega)] at h1
  rw [a8 _ _ (by rw [List.length_append]; omega),List.getElem_append_left (by omega)]; exact h1
 ·rcases List.mem_append.1 ht with ht | ht
  ·have := h.i t ht;show 0 ≤ t.id ∧ t.id < c.next + 1;omega
  ·rw [List.mem_singleton] at ht;subst ht;show 0 ≤ c.next ∧ c.next < c.next + 1;omega
 ·show ((c.stk ++ [_]).map _).Nodup
  rw [List.map_append,List.nodup_append]
  refine ⟨h.d,by simp,fun a ha b hb => ?_⟩
  simp only [List.map_cons,List.map_nil,List.mem_singleton] at hb
  obtain ⟨t,ht,rfl⟩ := List.mem_map.1 ha
  have := h.i t ht
  omega
theorem OkC.nw {v:Int}(h:0 ≤ v ∧ v ≤ 9):OkC (uP v) := ⟨h,⟨by show (1:Int) ≤ 1;decide,by show (1:Int) ≤ 1000;decide⟩,⟨by show 1 ≤ 1;decide,by show 1 ≤ 200;decide⟩,rfl,by simp [uP],by simp [uP]⟩
theorem OkM.set {m:List Cl}(h:OkM m){k:Nat}{c:Cl}(hc:OkC c):OkM (m.set k c) :=
 ⟨by rw [List.length_set]; exact h.l,fun x hx => (List.mem_or_eq_of_mem_set hx).elim (h.c x) (fun e => e ▸ hc)⟩
theorem OkM.at {m:List Cl}(h:OkM m){k:Nat}(hk:k < m.length):OkC m[k]! := h.c _ (aP _ _ hk)
theorem dH {m:List Cl}{x:Pt}{wr:Bool}(h:bC m x wr ≠ 4):0 ≤ x.cell ∧ x.cell < m.length ∧ x.cell.toNat < m.length:=by
 unfold bC at h
 split at h
 ·exact absurd rfl h
 ·omega
theorem wI {m:List Cl}{x:Pt}{wr:Bool}(h:bC m x wr = 0):0 ≤ x.cell ∧ x.cell < m.length ∧ x.cell.toNat < m.length := dH (by rw [h]; decide)
theorem OkM.tch {m:List Cl}(h:OkM m) (x:Pt) (wr:Bool):OkM (dO m x wr):=by
 unfold dO;split
 ·rename_i hk;exact h.set ((h.at (wI hk).2.2).tch x wr)
 ·exact h
theorem OkM.wr {m:List Cl}(h:OkM m) (x:Pt) (v:Int):OkM (Az m x v):=by
 unfold Az
 by_cases hk : uZ m x v = 0
 ·rw [if_pos hk]
  unfold uZ at hk
  by_cases hv : 0 ≤ v ∧ v ≤ 9
  ·rw [if_pos hv] at hk
   have h1 := (h.at (wI hk).2.2).tch x true
   exact h.set ⟨hv,h1.n,h1.l,h1.u,h1.i,h1.d⟩
  ·rw [if_neg hv] at hk;cases hk
 ·rw [if_neg hk]; exact h
theorem OkM.fr {m:List Cl}(h:OkM m) (x:Pt):OkM (kZ m x):=by
 unfold kZ;split
 ·rename_i hk
  have h1 := (h.at (wI hk).2.2).tch x true
  exact h.set ⟨h1.v,h1.n,h1.l,h1.u,h1.i,h1.d⟩
 ·exact h
theorem OkM.ln {m:List Cl}(h:OkM m) (x:Pt) (u:Bool):OkM (nA m x u):=by
 unfold nA
 by_cases hk : lT m x u = 0
 ·rw [if_pos hk]
  unfold lT at hk
  by_cases h0 : bC m x u = 0
  ·rw [if_pos h0] at hk
   by_cases hf : DY (sB m[x.cell.toNat]! x u)
   ·rw [if_pos hf] at hk;cases hk
   ·exact h.set (((h.at (wI h0).2.2).tch x u).psh u hf)
  ·rw [if_neg h0] at hk;exact absurd hk h0
 ·rw [if_neg hk]; exact h
theorem OkM.nw {m:List Cl}(h:OkM m){v:Int}(hv:0 ≤ v ∧ v ≤ 9) (hl:m.length < 200):OkM (m ++ [uP v]) :=
 ⟨by rw [List.length_append,List.length_singleton]; omega,fun c hc => (List.mem_append.1 hc).elim (h.c c) (fun h => by rw [List.mem_singleton.1 h]; exact OkC.nw hv)⟩
def iA (pts : List Pnt) (a : Nat) (cs : List Int) : Nat × List Int :=
 if pts[a]!.next.length = 2 then
  match cs with
  | [] => ((pts[a]!.next[1]!).toNat,[])
  | c :: cs => ((pts[a]!.next[(c % 2).toNat]!).toNat,cs)
 else ((pts[a]!.next[0]!).toNat,cs)
def gK (pts : List Pnt) : Nat → Nat → List Int → List Nat × Bool
 | 0,a,_ => if pts[a]!.op = 11 then ([a],true) else ([],false)
 | n + 1,a,cs => if pts[a]!.op = 11 then ([a],true) else (a :: (gK pts n (iA pts a cs).1 (iA pts a cs).2).1,(gK pts n (iA pts a cs).1 (iA pts a cs).2).2)
structure Mc where
 slots : List Sl
 cells : List Cl
 read : List Int
 deriving Inhabited
def mA : Sl := ⟨false,0,⟨0,0⟩⟩
def eZ (k : Int) : Int := if k = 1 then 3 else 4
def nV (k : Int) : Int := if k = 0 then -1 else eZ k
def bV (ts : List Int) (s : Mc) (v : Nat) (x : Sl) : Mc × Int :=
 if ts[v]! = 2 ∧ s.slots[v]!.set = true then (⟨s.slots.set v x,kZ s.cells s.slots[v]!.ptr,s.read⟩,nV (bC s.cells s.slots[v]!.ptr true))
 else (⟨s.slots.set v x,s.cells,s.read⟩,-1)
def cR (ts : List Int) (s : Mc) (x : Pnt) : Bool := (List.range ts.length).any fun v => decide (a9 ts x v ≠ 0) && !s.slots[v]!.set
def cQ (ts : List Int) : Nat → Nat → Mc → Mc × Int
 | 0,_,s => (s,0)
 | n + 1, v, s => if ts[v]! = 2 ∧ s.slots[v]!.set = true then
   (if bC s.cells s.slots[v]!.ptr true = 0 then cQ ts n (v + 1) ⟨s.slots.set v mA,kZ s.cells s.slots[v]!.ptr,s.read⟩ else (⟨s.slots,kZ s.cells s.slots[v]!.ptr,s.read⟩,eZ (bC s.cells s.slots[v]!.ptr true)))
  else cQ ts n (v + 1) s
def dE (ts : List Int) (s : Mc) (x : Pnt) : Mc × Int :=
 if x.op = 1 then bV ts s x.x.toNat ⟨true,x.n,⟨0,0⟩⟩
 else if x.op = 2 then (if s.cells.length = 200 then (s,1) else bV ts ⟨s.slots,s.cells ++ [uP x.n],s.read⟩ x.x.toNat ⟨true,0,⟨s.cells.length,0⟩⟩)
 else if x.op = 3 then bV ts (if yS ts[x.y.toNat]! = true then ⟨s.slots.set x.y.toNat mA,s.cells,s.read⟩ else s) x.x.toNat s.slots[x.y.toNat]!
 else if x.op = 4 ∨ x.op = 5 then
  (if lT s.cells s.slots[x.y.toNat]!.ptr (decide (x.op = 5)) = 0 then bV ts ⟨s.slots, nA s.cells s.slots[x.y.toNat]!.ptr (decide (x.op = 5)), s.read⟩ x.x.toNat ⟨true, 0, qV s.cells s.slots[x.y.toNat]!.ptr (decide (x.op = 5))⟩
   else (s,eZ (lT s.cells s.slots[x.y.toNat]!.ptr (decide (x.op = 5)))))
 else if x.op = 6 then
  (if bC s.cells s.slots[x.y.toNat]!.ptr false = 0 then bV ts ⟨s.slots, dO s.cells s.slots[x.y.toNat]!.ptr false, s.read ++ [nS s.cells s.slots[x.y.toNat]!.ptr]⟩ x.x.toNat ⟨true, nS s.cells s.slots[x.y.toNat]!.ptr, ⟨0, 0⟩⟩
   else (s,eZ (bC s.cells s.slots[x.y.toNat]!.ptr false)))
 else if x.op = 7 then (⟨s.slots,Az s.cells s.slots[x.x.toNat]!.ptr s.slots[x.y.toNat]!.num,s.read⟩,nV (uZ s.cells s.slots[x.x.toNat]!.ptr s.slots[x.y.toNat]!.num))
 else if x.op = 8 then (⟨s.slots.set x.x.toNat mA,kZ s.cells s.slots[x.x.toNat]!.ptr,s.read⟩,nV (bC s.cells s.slots[x.x.toNat]!.ptr true))
 else if x.op = 11 then cQ ts ts.length 0 s
 else (s,-1)
def mV (ts : List Int) (pts : List Pnt) : List Nat → Mc → Nat → Mc × Int × Nat
 | [],s,last => (s,1,last)
 | a :: l, s, _ => if cR ts s pts[a]! = true then (s, 2, a)
  else if (dE ts s pts[a]!).2 = -1 then mV ts pts l (dE ts s pts[a]!).1 a
  else ((dE ts s pts[a]!).1,(dE ts s pts[a]!).2,a)
def mc0 (nt : Nat) : Mc := ⟨List.replicate nt mA,[],[]⟩
def jF (ts : List Int) (pts : List Pnt) (cs : List Int) (most : Nat) : Mc × Int × Nat := mV ts pts (gK pts most 0 cs).1 (mc0 ts.length) 0
structure OkS (nt : Nat) (s : Mc) : Prop where
 m : OkM s.cells
 l : s.slots.length = nt
theorem OkS.put {ts:List Int}{nt:Nat}{s:Mc}(h:OkS nt s) (v:Nat) (x:Sl):OkS nt (bV ts s v x).1:=by
 unfold bV;split
 ·exact ⟨h.m.fr _,by show (s.slots.set v x).length = nt;rw [List.length_set]; exact h.l⟩
 ·exact ⟨h.m,by show (s.slots.set v x).length = nt;rw [List.length_set]; exact h.l⟩
theorem OkS.fin {ts:List Int}{nt:Nat}:∀ n v (s:Mc),OkS nt s → OkS nt (cQ ts n v s).1
 | 0,_,_,h => h
 | n + 1, v, s, h => by
  unfold cQ;split
  ·split
   ·exact OkS.fin n _ _ ⟨h.m.fr _,by show (s.slots.set v mA).length = nt;rw [List.length_set]; exact h.l⟩
   ·exact ⟨h.m.fr _,h.l⟩
  ·exact OkS.fin n _ _ h
structure PtN (x : Pnt) : Prop where
 n : x.op = 2 → 0 ≤ x.n ∧ x.n ≤ 9
theorem OkS.do {ts:List Int}{nt:Nat}{s:Mc}(h:OkS nt s){x:Pnt}(hx:PtN x):OkS nt (dE ts s x).1:=by
 have hl : ∀ (v : Nat) (y : Sl),(s.slots.set v y).length = nt := fun v y => by rw [List.length_set]; exact h.l
 unfold dE
 split
 ·exact h.put _ _
 split
 ·rename_i h2
  split
  ·exact h
  ·rename_i h3
   refine OkS.put ?_ _ _
   exact ⟨h.m.nw (hx.n h2) (by have := h.m.l;omega),h.l⟩
 split
 ·split
  ·refine OkS.put ?_ _ _
   exact ⟨h.m,hl _ _⟩
  ·exact h.put _ _
 split
 ·split
  ·refine OkS.put ?_ _ _
   exact ⟨h.m.ln _ _,h.l⟩
  ·exact h
 split
 ·split
  ·refine OkS.put ?_ _ _
   exact ⟨h.m.tch _ _,h.l⟩
  ·exact h
 split
 ·exact ⟨h.m.wr _ _,h.l⟩
 split
 ·exact ⟨h.m.fr _,hl _ _⟩
 split
 ·exact OkS.fin _ _ _ h
 ·exact h
theorem OkS.mc0 (nt:Nat):OkS nt (mc0 nt) := ⟨⟨by simp [Go.AL.mc0],by simp [Go.AL.mc0]⟩,by simp [Go.AL.mc0]⟩
theorem OkS.run {ts:List Int}{pts:List Pnt}{nt:Nat}(hp:∀ a:Nat,PtN pts[a]!):∀ (l:List Nat) (s:Mc) (last:Nat),OkS nt s → OkS nt (mV ts pts l s last).1
 | [],_,_,h => h
 | a :: l, s, _, h => by
  unfold mV;split
  ·exact h
  ·split
   ·exact OkS.run hp l _ _ (h.do (hp a))
   ·exact h.do (hp a)
theorem IG (k:Int):eZ k = 3 ∨ eZ k = 4 := by unfold eZ;split;exact .inl rfl;exact .inr rfl
theorem xS (ts:List Int):∀ n v (s:Mc),(cQ ts n v s).2 = 0 ∨ (cQ ts n v s).2 = 3 ∨ (cQ ts n v s).2 = 4
 | 0,_,_ => .inl rfl
 | n + 1, v, s => by
  unfold cQ;split
  ·split
   ·exact xS ts n _ _
   ·exact .inr (IG _)
  ·exact xS ts n _ _
theorem FN {ts:List Int}{s:Mc}{x:Pnt}(h:x.op = 11):dE ts s x = cQ ts ts.length 0 s:=by
 unfold dE;simp [h]
theorem tO (m:List Cl) (x:Pt) (b:Bool):(dO m x b).length = m.length := by unfold dO;split <;> simp
structure PtA (ts : List Int) (x : Pnt) : Prop where
 n : x.op = 1 ∨ x.op = 2 → 0 ≤ x.n ∧ x.n ≤ 9
 t1 : x.op = 1 → ts[x.x.toNat]! = 1
 t2 : x.op = 2 ∨ x.op = 8 → ts[x.x.toNat]! = 2
 t3 : x.op = 3 → ts[x.x.toNat]! = ts[x.y.toNat]! ∧ x.x ≠ x.y
 t4 : x.op = 4 → ts[x.x.toNat]! = 3 ∧ x.x ≠ x.y ∧ 2 ≤ ts[x.y.toNat]!
 t5 : x.op = 5 → ts[x.x.toNat]! = 4 ∧ x.x ≠ x.y ∧ (ts[x.y.toNat]! = 2 ∨ ts[x.y.toNat]! = 4)
 t6 : x.op = 6 → ts[x.x.toNat]! = 1 ∧ 2 ≤ ts[x.y.toNat]!
 t7 : x.op = 7 → (ts[x.x.toNat]! = 2 ∨ ts[x.x.toNat]! = 4) ∧ ts[x.y.toNat]! = 1
theorem PtA.no {ts:List Int}{x:Pnt}(h:9 ≤ x.op):PtA ts x := ⟨fun e => by omega,fun e => by omega,fun e => by omega,fun e => by omega,fun e => by omega,fun e => by omega,fun e => by omega,fun e => by omega⟩
theorem BZ {ts:List Int}{s:Stmt}(h:dI ts s = true):s.op ≤ 8:=by
 unfold dI at h
 dsimp only at h
 apply Classical.byContradiction
 intro e
 rw [if_neg (by omega),if_neg (by omega)] at h
 split at h
 ·cases h
 ·rw [if_neg (by omega),if_neg (by omega),if_neg (by omega),if_neg (by omega),if_neg (by omega),if_neg (by omega)] at h;cases h
theorem Fj {ts:List Int}(s:Stmt) (h:dI ts s = true):PtA ts ⟨s.op,s.x,s.y,s.n,[]⟩:=by
 have g : ∀ v,0 < e7 ts v → e7 ts v = ts[v.toNat]! := fun v => iN
 have gx := g s.x
 have gy := g s.y
 unfold dI at h
 dsimp only at h
 constructor <;> dsimp only <;> intro e
 case n => rcases e with e|e <;> simp [e] at h <;> omega
 case t1 => simp [e] at h;rw [← gx (by omega)]; omega
 case t2 => rcases e with e|e <;> simp [e] at h <;> (rw [← gx (by omega)]; omega)
 case t3 => simp [e] at h;rw [← gx (by omega),← gy (by omega)]; exact ⟨h.2.1,h.2.2.2⟩
 case t4 => simp [e] at h;rw [← gx (by omega),← gy (by omega)]; exact ⟨h.2.1,h.2.2.2,h.2.2.1⟩
 case t5 => simp [e] at h;rw [← gx (by omega),← gy (by omega)]; exact ⟨h.2.1,h.2.2.2,h.2.2.1⟩
 case t6 => simp [e] at h;rw [← gx (by omega),← gy (by omega)]; exact ⟨h.2.1,h.2.2⟩
 case t7 => simp [e] at h;rw [← gx (by omega),← gy (by omega)]; exact ⟨h.2.1,h.2.2⟩
mutual
theorem ME {ts:List Int}:∀ (s:Stmt) (d b:Nat),rD ts d s = true → ∀ x ∈ uD b s,PtA ts x ∧ x.op ≠ 11 ∧ 0 < x.next.length
 | .mk op x y n th el, d, b, h => by
  simp only [rD] at h
  split at h
  ·rename_i hop
   simp only [Bool.and_eq_true] at h
   have hs := Fj _ h.2
   have ho := BZ h.2
   simp only [Stmt.op,Stmt.x,Stmt.y,Stmt.n] at hs ho
   simp only [uD,hop.1,hop.2,if_false,List.mem_singleton]
   rintro z rfl
   exact ⟨⟨hs.n,hs.t1,hs.t2,hs.t3,hs.t4,hs.t5,hs.t6,hs.t7⟩,by dsimp only;omega,by simp⟩
  ·rename_i hop
   cases d with
   | zero => cases h
   | succ d =>
    simp only [Bool.and_eq_true,decide_eq_true_eq] at h
    obtain ⟨⟨⟨_,_⟩,h1⟩,h2⟩ := h
    by_cases h9 : op = 9
    ·subst h9
     simp only [uD,if_true,List.mem_append,List.mem_singleton]
     rintro z (((rfl|hz)|rfl)|hz)
     ·exact ⟨PtA.no (by simp),by simp,by simp⟩
     ·exact tJ th d (b + 1) h1 z hz
     ·exact ⟨PtA.no (by simp),by simp,by simp⟩
     ·exact tJ el d (b + 2 + cX th) h2 z hz
    ·have h10 : op = 10 := by omega
     subst h10
     simp only [uD,if_true,show ((10 : Int) = 9) = False by simp,if_false,List.mem_append,List.mem_singleton]
     rintro z ((rfl|hz)|rfl)
     ·exact ⟨PtA.no (by simp),by simp,by simp⟩
     ·exact tJ th d (b + 1) h1 z hz
     ·exact ⟨PtA.no (by simp),by simp,by simp⟩
theorem tJ {ts:List Int}:∀ (l:List Stmt) (d b:Nat),okL ts d l = true → ∀ x ∈ fO b l,PtA ts x ∧ x.op ≠ 11 ∧ 0 < x.next.length
 | [],d,b,h => by simp [fO]
 | s :: l, d, b, h => by
  simp only [okL,Bool.and_eq_true] at h
  simp only [fO,List.mem_append]
  rintro x (hx|hx)
  ·exact ME s d b h.1 x hx
  ·exact tJ l d (b + nP s) h.2 x hx
end
structure WA (ts : List Int) (pts : List Pnt) : Prop where
 a : ∀ i,i < pts.length → PtA ts pts[i]!
 e : ∀ i,i < pts.length → (pts[i]!.op = 11 ↔ i + 1 = pts.length)
 n : ∀ i,i < pts.length → pts[i]!.op ≠ 11 → 0 < pts[i]!.next.length
theorem WA.of_valid {p:Prg}(h:bI p = true):WA p.types (aB p):=by
 unfold bI at h
 simp only [Bool.and_eq_true,decide_eq_true_eq] at h
 obtain ⟨⟨_,hl⟩,_⟩ := h
 have hlen := lJ p
 have hpl := bQ p.body 0
 have lo : ∀ i, i + 1 < (aB p).length → (aB p)[i]! ∈ fO 0 p.body := fun i hi => by
  have h1 : i < (fO 0 p.body).length := by omega
  unfold aB
  rw [a8 _ _ (by rw [List.length_append]; omega),List.getElem_append_left h1]
  exact List.getElem_mem h1
 have hi : ∀ i, i + 1 = (aB p).length → (aB p)[i]! = ⟨11, 0, 0, 0, []⟩ := fun i hi => by
  have h1 : i = (fO 0 p.body).length := by omega
  unfold aB
  rw [a8 _ _ (by rw [List.length_append,List.length_singleton]; omega)]
  simp [h1]
 refine ⟨fun i h => ?_,fun i h => ⟨fun e => ?_,fun e => by rw [hi i e]⟩,fun i h ne => ?_⟩
 ·by_cases q : i + 1 < (aB p).length
  ·exact (tJ p.body 4 0 hl _ (lo i q)).1
  ·rw [hi i (by omega)]; exact PtA.no (by simp)
 ·by_cases q : i + 1 < (aB p).length
  ·exact absurd e (tJ p.body 4 0 hl _ (lo i q)).2.1
  ·omega
 ·by_cases q : i + 1 < (aB p).length
  ·exact (tJ p.body 4 0 hl _ (lo i q)).2.2
  ·exact absurd (by rw [hi i (by omega)]) ne
theorem IK {ts:List Int}{s:Mc}{x:Pnt}(h:cR ts s x = false){v:Nat}(hv:v < ts.length) (hu:a9 ts x v ≠ 0):s.slots[v]!.set = true:=by
 unfold cR at h
 rw [List.any_eq_false] at h
 have h1 := h v (List.mem_range.2 hv)
 rw [decide_eq_true hu,Bool.true_and] at h1
 simpa using h1
section
variable {ts : List Int} {pts : List Pnt}
theorem GW (w:WG ts pts) (A:WA ts pts){a:Nat}(ha:a < pts.length) (h11:pts[a]!.op ≠ 11) (cs:List Int):dF pts a (iA pts a cs).1:=by
 have key : ∀ j : Nat, j < pts[a]!.next.length → dF pts a (pts[a]!.next[j]!).toNat := fun j hj => by
  have hm := aP pts[a]!.next j hj
  refine ⟨ha,?_⟩
  rw [show (((pts[a]!.next[j]!).toNat : Nat) : Int) = pts[a]!.next[j]! by have := (w.nx a ha _ hm).1;omega]
  exact hm
 have h0 := A.n a ha h11
 unfold iA
 split
 ·rename_i h2
  split
  ·exact key 1 (by omega)
  ·rename_i c cs
   exact key _ (by omega)
 ·exact key 0 h0
end
section
variable {ts : List Int} {pts : List Pnt}
theorem zZ {s:Mc}{x:Pnt}(h:cR ts s x = true):∃ v,v < ts.length ∧ a9 ts x v ≠ 0 ∧ s.slots[v]!.set = false:=by
 unfold cR at h
 obtain ⟨v,hv,h2⟩ := List.any_eq_true.1 h
 rw [Bool.and_eq_true,decide_eq_true_eq] at h2
 exact ⟨v,List.mem_range.1 hv,h2.1,by simpa using h2.2⟩
end
theorem vT {m:List Cl}{x:Pt}{u:Bool}(h:lT m x u = 0):bC m x u = 0:=by
 unfold lT at h
 by_cases h0 : bC m x u = 0
 ·exact h0
 ·rw [if_neg h0] at h;exact h
theorem tM (ts:List Int):∀ n v (s:Mc),(cQ ts n v s).1.read = s.read
 | 0,_,_ => rfl
 | n + 1, v, s => by
  unfold cQ;split
  ·split
   ·exact tM ts n _ _
   ·rfl
  ·exact tM ts n _ _
theorem j6 (ts:List Int) (s:Mc) (v:Nat) (x:Sl):(bV ts s v x).1.read = s.read := by unfold bV;split <;> rfl
structure Co where
 val : Int
 alive : Bool
 next : Int
 av : AV
instance : Inhabited Co:=⟨⟨0,false,0,.imm 0 []⟩⟩
def eI (c : Co) : List AV := [iv c.val,bv c.alive,iv c.next,c.av]
instance : FlT eI 4:=⟨fun _ => rfl⟩
instance : FE eI (fun c => [iv c.val,bv c.alive,iv c.next,c.av]):=⟨fun _ => rfl⟩
def qL (c : Cl) : Co := ⟨c.val,c.alive,c.next,sl b8 c.stk⟩
def cZ (m : List Cl) (j : Nat) (X : AV) : List Co := (m.map qL).set j { qL m[j]! with av := X }
theorem j8 (m:List Cl):flat eI (m.map qL) = flat bG m:=by
 unfold flat;rw [List.flatMap_map]; rfl
theorem cV {m:List Cl}{j:Nat}{X:AV}:(cZ m j X).length = m.length := by unfold cZ;rw [List.length_set,List.length_map]
theorem gM {m:List Cl}{j:Nat}{X:AV}(h:j < m.length):(cZ m j X)[j]! = ⟨m[j]!.val,m[j]!.alive,m[j]!.next,X⟩:=by
 unfold cZ
 rw [a8 _ _ (by rw [List.length_set,List.length_map]; exact h),List.getElem_set_self]; rfl
theorem iY {m:List Cl}{j:Nat}{X:AV}(h:j < m.length):flat eI (cZ m j X) = flat bG (m.take j) ++ ([iv m[j]!.val,bv m[j]!.alive,iv m[j]!.next] ++ X :: flat bG (m.drop (j + 1))):=by
 unfold cZ
 rw [List.set_eq_take_append_cons_drop,if_pos (by rw [List.length_map]; exact h),← cP,← List.map_take,j8,← List.map_drop]
 congr 1
 show eI _ ++ flat eI _ = _
 rw [j8]; rfl
theorem vZ {m:List Cl}{j:Nat}{X:AV}(h:j < m.length):flat eI (cZ m j X) = (flat bG (m.take j) ++ [iv m[j]!.val,bv m[j]!.alive,iv m[j]!.next]) ++ X :: flat bG (m.drop (j + 1)):=by
 rw [iY h,List.append_assoc]
theorem Ba {m:List Cl}{j:Nat}{r:List Tg}:flat eI (cZ m j (sl b8 r)) = flat bG (m.set j { m[j]! with stk := r }):=by
 rw [← j8,List.map_set]; rfl
theorem xP {m:List Cl}{j:Nat}{X:AV}(h:j < m.length):gQ (flat bG m) (0 + j * 4 + 3) [X] = flat eI (cZ m j X):=by
 rw [← j8]
 have := fZ (f := eI) (xs := m.map qL) (k := j) (j := 3) (new := [X]) (y := { qL m[j]! with av := X }) (by rw [List.length_map]; exact h) (by simp) (by
  have e : (m.map qL)[j]! = qL m[j]! := by rw [a8 _ _ (by rw [List.length_map]; exact h),List.getElem_map,a8 _ _ h]
  rw [e]; rfl)
 exact this
theorem tZ {m:List Cl}{j:Nat}{X Y:AV}(h:j < m.length):gQ (flat eI (cZ m j X)) (0 + j * 4 + 3) [Y] = flat eI (cZ m j Y):=by
 have e : cZ m j Y = (cZ m j X).set j { qL m[j]! with av := Y } := by unfold cZ;rw [List.set_set]
 rw [e]
 exact fZ (by rw [cV]; exact h) (by simp) (by rw [gM h]; rfl)
theorem wE {m:List Cl}{j:Nat}{X:AV}{v:Int}(h:j < m.length):gQ (flat eI (cZ m j X)) (0 + j * 4 + 2) [iv v] = flat eI (cZ (m.set j { m[j]! with next := v }) j X):=by
 have e : cZ (m.set j { m[j]! with next := v }) j X = (cZ m j X).set j ⟨m[j]!.val, m[j]!.alive, v, X⟩ := by
  have e2 : (m.set j { m[j]! with next := v })[j]! = { m[j]! with next := v } := by rw [a8 _ _ (by rw [List.length_set]; exact h),List.getElem_set_self]
  unfold cZ
  rw [e2,List.map_set,List.set_set,List.set_set]; rfl
 rw [e]
 exact fZ (by rw [cV]; exact h) (by simp) (by rw [gM h]; rfl)
theorem Le.cls {ts:List (Nat × AV)}{hs:List (Nat × Option (List AV))}{n:Nat}{z0:Lo}{o q j k:Nat}{m:List Cl}{r:List Tg}(hj:aO hs o = some (flat eI (cZ m j (.own q 0 k 2)))) (hq:aO hs q = some (flat b8 r)) (hk:k = r.length) (hjm:j < m.length) (hoq:o ≠ q) :
  Le ⟨ts,hs,n,z0⟩ ⟨ts,(o,some (flat bG (m.set j { m[j]! with stk := r }))) :: (q,none) :: hs,n,z0⟩ := by
 subst hk
 rw [vZ hjm] at hj
 have h := Le.frzC (ts := ts) (n := n) (z0 := z0) _ hj hq hoq
 rw [← Ba,vZ hjm]; exact h
theorem xW {ρ:Nat → Option Nat}{m:List Cl}{j k i i':Nat}(hr:ρ i = some i'):RnL ρ (flat eI (cZ m j (.own i 0 k 2))) (flat eI (cZ m j (.own i' 0 k 2))):=by
 by_cases h : j < m.length
 ·rw [iY h, iY h]
  exact RnL.app (RnL.purI inferInstance) (RnL.app (RnL.purI inferInstance) (RnL.cons (RnV.own hr) (RnL.purI inferInstance)))
 ·have e : ∀ X, cZ m j X = m.map qL := fun X => List.set_eq_of_length_le (by rw [List.length_map]; omega)
  rw [e,e,j8]
  exact RnL.purI inferInstance
theorem sE {p:Prop}{α:Type}{a c:Option α}{b:α}(h:some b = c) (e:a = some b := by rfl):p ∨ a = c := .inr (e.trans h)
section
variable {P : Program} {N : Nat} {Q : Exit → AS → Prop} {all : Array Oper} {rest : List Oper} {ts : List (Nat × AV)} {hs : List (Nat × Option (List AV))} {n : Nat} {z0 : Lo} {md : Md}
variable {ty : TypeId} {pos : String} {af : Array Edge}
theorem bB {d:Nat}{k:FuncId}{l:List Operand}{tys:Array TypeId}{avs avs0:List AV}{H0:List (Nat × Option (List AV))}{rr rr':AV}{hh:List (Nat × Option (List AV))}
  (mp : List Nat) (n1 : Nat) (ws : List (Nat × Option (List AV))) (h : MC P k avs0 H0 mp.length (fun _ : Unit => True) (fun _ => rr) (fun _ => hh)) [hc : CaT P k] (ha : evL (lk ts) l = some avs) (hd : distinct mp = true)
  (hM : Nat.ble (n + (n1 - mp.length)) aQ = true) (hN : Nat.blt d N = true)
  {md' : Md} [hmd : MdA md (fR l ++ mp.map .inr) (ws.map (fun p => .inr p.1) ++ [.inl d]) md']
  (kk : RW P N all Q md' rest ⟨(d,rr') :: ts,iB hs ws,n + (n1 - mp.length),z0⟩)
  (hH0 : sV hs H0 mp 0 mp := by repeat' (first|exact trivial|(refine And.intro ⟨_,_,rfl,by assumption,?_⟩ ?_)|exact RnL.purI inferInstance|exact xW rfl|exact RnV.purI inferInstance|exact RnV.own rfl|exact RnV.optr rfl|exact RnL.nil|refine RnL.cons ?_ ?_|refine RnV.agg ?_|refine RnV.tup ?_))
  (hk : gI mp.length H0 = true := by rfl)
  (har : RnL (mp[·]?) avs0 avs := by repeat' (first|exact RnL.purI inferInstance|exact xW rfl|exact RnV.purI inferInstance|exact RnV.own rfl|exact RnV.optr rfl|exact RnL.nil|refine RnL.cons ?_ ?_|refine RnV.agg ?_|refine RnV.tup ?_))
  (hr : RnV (yT mp n n1) rr rr' := by repeat' (first|exact RnL.purI inferInstance|exact xW rfl|exact RnV.purI inferInstance|exact RnV.own rfl|exact RnV.optr rfl|exact RnL.nil|refine RnL.cons ?_ ?_|refine RnV.agg ?_|refine RnV.tup ?_))
  (hwa : vI mp ws = true := by simp [vI])
  (hw : qF (yT mp n n1) hh ws := by repeat' (first|exact trivial|(refine And.intro ⟨0,_,rfl,rfl,?_⟩ ?_)|(refine And.intro ⟨1,_,rfl,rfl,?_⟩ ?_)|(refine And.intro ⟨2,_,rfl,rfl,?_⟩ ?_)|(refine And.intro ⟨3,_,rfl,rfl,?_⟩ ?_)|(refine And.intro ⟨4,_,rfl,rfl,?_⟩ ?_)|(refine And.intro ⟨5,_,rfl,rfl,?_⟩ ?_)|(refine And.intro ⟨6,_,rfl,rfl,?_⟩ ?_)|exact RnL.purI inferInstance|exact xW rfl|exact RnV.purI inferInstance|exact RnV.own rfl|exact RnV.optr rfl|exact RnL.nil|refine RnL.cons ?_ ?_|refine RnV.agg ?_|refine RnV.tup ?_)) :
  RW P N all Q md (⟨some d,.call ⟨.value (.func k),l.toArray,tys⟩,ty,pos,af,none⟩ :: rest) ⟨ts,hs,n,z0⟩ :=
 pS mp n1 ws h (avs := avs) ha hd hH0 hk har hM hr hwa hw hN (md' := md') (hmd := hmd) kk
end
theorem aE {G K:Prop}(k:K) (h:Hy K → G := by first|(intro k;(first|refine F9 ?_ | refine Nt ?_);exact k.pf) | fail):G := h ⟨k⟩
end Go.AL
namespace Go.AL
open Go.RowKit Go.MapKept
def M1 (r : Nat) (ks : List Int) (w : World) : Prop := ∃ es ck,w.heap[r]? = some (.map es ck) ∧ ∀ e ∈ es.toList,∃ k ∈ ks,e.key = .int .i64 k
structure GsM (C : Ctx) (s : AS) (r : Nat) (ks : List Int) (a : Act) (w : World) : Prop where
 g : Gs C s a w
 m : M1 r ks w
 l : C.w0.heap.size ≤ r
theorem Fr.trans2 {W0 W1:Nat → Prop}{w0 w w':World}(h:Fr W0 w0 w) (k:Fr W1 w w') (hW:∀ b,W1 b → W0 b ∨ w0.heap.size ≤ b):Fr W0 w0 w' :=
 ⟨k.os.trans h.os, k.tape.trans h.tape, k.output.trans h.output, Nat.le_trans h.size k.size, fun b hb hw => by
  rw [k.block b (Nat.lt_of_lt_of_le hb h.size) (fun q => (hW b q).elim hw (fun h => by omega))]; exact h.block b hb hw,fun b => Nat.le_trans (h.bs b) (k.bs b)⟩
theorem GsM.base {C:Ctx}{s:AS}{r:Nat}{ks:List Int}{a:Act}{w:World}(h:GsM C s r ks a w):∃ C':Ctx,C'.N = C.N ∧ Gs C' s a w ∧ ∀ s' a' w',Gs C' s' a' w' → GsM C s' r ks a' w':=by
 obtain ⟨⟨h0,ι,g,gh⟩,⟨es,ck,hm,hk⟩,hl⟩ := h
 let C' : Ctx := { C with w0 := w,W0 := fun b => ∃ id cs β,aO s.hs id = some cs ∧ ι id = some (some (b,β)),xlt := fun b hb => Nat.lt_of_lt_of_le (C.xlt b hb) gh.fr.size }
 have hW : ∀ b, C'.W0 b → C.W0 b ∨ C.w0.heap.size ≤ b := by
  rintro b ⟨id,cs,β,h1,h2⟩
  rcases gh.obj id cs h1 with ⟨h3,_⟩ | ⟨b',β',arr,e,h3,h4,h5,h6,h7,h8⟩
  ·rw [h3] at h2;cases h2
  ·rw [h3] at h2;cases h2;exact h8
 have hr : ¬ C'.W0 r := by
  rintro ⟨id,cs,β,h1,h2⟩
  rcases gh.obj id cs h1 with ⟨h3,_⟩ | ⟨b',β',arr,e,h3,h4,h5,h6,h7,h8⟩
  ·rw [h3] at h2;cases h2
  ·rw [h3] at h2;cases h2;rw [hm] at h4;cases h4
 refine ⟨C',rfl,⟨h0,ι,⟨g.df,g.sz,g.tm⟩,⟨fun id cs h => ?_,gh.sep,Fr.refl _ _,gh.ex,gh.fresh⟩⟩,?_⟩
 ·rcases gh.obj id cs h with h1 | ⟨b', β', arr, e, h3, h4, h5, h6, h7, h8⟩
  ·exact .inl h1
  ·exact .inr ⟨b',β',arr,e,h3,h4,h5,h6,h7,.inl ⟨id,cs,β',h,h3⟩⟩
 ·rintro s' a' w' ⟨h0', ι', g', gh'⟩
  have f : Fr C'.W0 w w' := gh'.fr
  refine ⟨⟨h0',ι',⟨g'.df,g'.sz,g'.tm⟩,⟨fun id cs h => ?_,gh'.sep,gh.fr.trans2 f hW,gh'.ex,gh'.fresh⟩⟩,⟨es,ck,by rw [f.block r (eS hm) hr]; exact hm,hk⟩,hl⟩
  rcases gh'.obj id cs h with h1 | ⟨b',β',arr,e,h3,h4,h5,h6,h7,h8⟩
  ·exact .inl h1
  ·refine .inr ⟨b', β', arr, e, h3, h4, h5, h6, h7, ?_⟩
   rcases h8 with h8|h8
   ·exact hW _ h8
   ·exact .inr (Nat.le_trans gh.fr.size h8)
def qP (P : Program) (N : Nat) (c : Code) (Q : Exit → AS → List Int → Prop) (r : Nat) (ks : List Int) (s : AS) : Prop :=
 ∀ (C : Ctx) (a : Act) (w : World),C.N = N → GsM C s r ks a w → c.wp P (fun e a' w' => ∃ s' ks',Q e s' ks' ∧ GsM C s' r ks' a' w') a w
def E7 (P : Program) (N : Nat) (all : Array Oper) (Q : Exit → AS → List Int → Prop) (r : Nat) (ks : List Int) (l : List Oper) (s : AS) : Prop :=
 ∀ (C : Ctx) (a : Act) (w : World),C.N = N → GsM C s r ks a w → wpList P all (fun e a' w' => ∃ s' ks',Q e s' ks' ∧ GsM C s' r ks' a' w') l a w
def rP (K : AS → List Int → Prop) (Q : Exit → AS → List Int → Prop) : Exit → AS → List Int → Prop
 | .normal,s,ks => K s ks
 | e,s,ks => Q e s ks
def IJ (id : Nat) (Q : Exit → AS → List Int → Prop) : Exit → AS → List Int → Prop
 | .exit i,s,ks => if i = id then Q .normal s ks else Q (.exit i) s ks
 | e,s,ks => Q e s ks
section
variable {P : Program} {N : Nat} {Q : Exit → AS → List Int → Prop} {s : AS} {r : Nat} {ks : List Int}
theorem oE {c:Code}(h:AW P N c (fun e s' => Q e s' ks) s):qP P N c Q r ks s:=by
 intro C a w hN g
 obtain ⟨C',h1,h2,h3⟩ := g.base
 exact wp_mono (h C' a w (h1.trans hN) h2) fun e a' w' ⟨s',q1,q2⟩ => ⟨s',ks,q1,h3 _ _ _ q2⟩
theorem kQ {x y:Code}(h:qP P N x (rP (fun s' ks' => qP P N y Q r ks' s') Q) r ks s):qP P N (.seq x y) Q r ks s:=by
 intro C a w hN g
 refine wp_seq (wp_mono (h C a w hN g) ?_)
 rintro e a' w' ⟨s',ks',h1,h2⟩
 cases e with
 | normal => exact h1 C a' w' hN h2
 | _ => exact ⟨s',ks',h1,h2⟩
theorem Ar {x y:Code}{c:Operand}{b:Bool}(hc:ev (lk s.ts) c = some (.v (.bool b))) (h1:b = true → qP P N x Q r ks s) (h2:b = false → qP P N y Q r ks s):qP P N (.cond c x y) Q r ks s:=by
 rintro C a w hN ⟨⟨h0,ι,g,gh⟩,hm,hl⟩
 have h := bZ g hc
 simp only [Rd] at h
 cases b
 ·exact wp_cond_false h (h2 rfl C a w hN ⟨⟨h0,ι,g,gh⟩,hm,hl⟩)
 ·exact wp_cond_true h (h1 rfl C a w hN ⟨⟨h0,ι,g,gh⟩,hm,hl⟩)
theorem vS {id:Nat}{c:Code}(h:qP P N c (IJ id Q) r ks s):qP P N (.block id c) Q r ks s:=by
 intro C a w hN g
 refine wp_block (wp_mono (h C a w hN g) ?_)
 rintro e a' w' ⟨s',ks',h1,h2⟩
 cases e with
 | exit i =>
  simp only [Exit.inBlock,IJ] at h1 ⊢
  split
  ·rename_i hi;rw [if_pos hi] at h1;exact ⟨s',ks',h1,h2⟩
  ·rename_i hi;rw [if_neg hi] at h1;exact ⟨s',ks',h1,h2⟩
 | _ => exact ⟨s',ks',h1,h2⟩
theorem zS (h:Q .normal s ks):qP P N .skip Q r ks s := fun C a w _ g => wp_skip ⟨s,ks,h,g⟩
theorem FJ {id:Nat}(h:Q (.exit id) s ks):qP P N (.exit id) Q r ks s := fun C a w _ g => wp_exit ⟨s,ks,h,g⟩
theorem FW {σ:Type}{c:Code}(p:σ → Prop) (I:σ → AS) (J:σ → List Int) (μ:σ → Nat) (h0:∃ i,p i ∧ Le s (I i) ∧ J i = ks)
  (round : ∀ i,p i → qP P N c (rP (fun s' ks' => ∃ j,p j ∧ μ j < μ i ∧ Le s' (I j) ∧ J j = ks') Q) r (J i) (I i)) : qP P N (.loop c) Q r ks s := by
 intro C a w hN g
 obtain ⟨i,h1,h2,h3⟩ := h0
 subst h3
 refine wp_loop (fun a w => ∃ i,p i ∧ GsM C (I i) r (J i) a w) (fun a w => n4 fun n => ∃ i,p i ∧ GsM C (I i) r (J i) a w ∧ μ i = n) ⟨i,h1,⟨h2 C a w g.g,g.m,g.l⟩⟩ ?_
 rintro a w ⟨i0,hp0,hg0⟩
 obtain ⟨⟨i,hp,hg,hm⟩,hmin⟩ := hU (S := fun n => ∃ i,p i ∧ GsM C (I i) r (J i) a w ∧ μ i = n) ⟨_,i0,hp0,hg0,rfl⟩
 refine wp_mono (round i hp C a w hN hg) ?_
 rintro e a' w' ⟨s',ks',h3,h4⟩
 cases e with
 | normal =>
  obtain ⟨j,q1,q2,q3,rfl⟩ := h3
  have h5 : GsM C (I j) r (J j) a' w' := ⟨q3 C a' w' h4.g,h4.m,h4.l⟩
  refine ⟨⟨j,q1,h5⟩,?_⟩
  have := (hU (S := fun n => ∃ i,p i ∧ GsM C (I i) r (J i) a' w' ∧ μ i = n) ⟨_,j,q1,h5,rfl⟩).2 (μ j) ⟨j,q1,h5,rfl⟩
  omega
 | _ => exact ⟨s',ks',h3,h4⟩
theorem Em {σ:Type}{c:Code}{ts:List (Nat × AV)}{hs:List (Nat × Option (List AV))}{n:Nat}{z0:Lo}(kl:List Nat) (kt:List (Nat × AV)) (js:List Nat) (kh:List (Nat × Option (List AV)))
  (ot : σ → List (Nat × AV)) (oh : σ → List (Nat × Option (List AV))) (J : σ → List Int) (p : σ → Prop) (μ : σ → Nat) (i0 : σ) (h0 : p i0) (hJ : J i0 = ks) (hk : nW kl ts = kt) (hj : pG js hs = kh)
  (h1 : oC ts (ot i0)) (h2 : mZ hs (oh i0))
  (round : ∀ i,p i → qP P N c (rP (fun s' ks' => ∃ j,p j ∧ μ j < μ i ∧ Le s' ⟨ot j ++ kt,oh j ++ kh,n,z0⟩ ∧ J j = ks') Q) r (J i) ⟨ot i ++ kt,oh i ++ kh,n,z0⟩) :
  qP P N (.loop c) Q r ks ⟨ts,hs,n,z0⟩ := by
 subst hk hj
 exact FW p (fun i => ⟨ot i ++ nW kl ts,oh i ++ pG js hs,n,z0⟩) J μ ⟨i0,h0,Le.lit (lR h1 (k7 kl)) (lK h2 (oR js)) (Nat.le_refl _),hJ⟩ round
theorem sJ {id:Nat}{l:List Oper}(h:E7 P N l.toArray Q r ks l s):qP P N (.region id l.toArray false) Q r ks s :=
 fun C a w hN g => wp_region_lit (h C a w hN g)
variable {all : Array Oper}
theorem L0 {o:Oper}{a:Act}{w:World}{K K':Act → World → Prop}{Q1 Q2:Exit → Act → World → Prop}(h:∀ a w,K a w → K' a w) (hq:∀ e a w,Q1 e a w → e = .normal)
  (hh : o.wp P a w K Q1) : o.wp P a w K' Q2 := by
 have hL : ¬ LetsOut Q1 := fun ⟨a,w,q⟩ => by cases hq _ _ _ q
 unfold Oper.wp at *
 generalize (execOp a.eval o).run P w = z at *
 cases z with
 | ok n w' =>
  cases n <;> simp only [Oper.upon] at hh ⊢ <;>
   first
    | exact h _ _ hh
    | exact Calls.mono hh (fun e w'' he => by cases e <;> first|exact h _ _ he|(cases hq _ _ _ he)|exact absurd he hL)
    | exact Rows.mono hh (fun _ _ he => h _ _ he)
 | halt x w' => cases x <;> simp only [Oper.upon] at hh ⊢ <;> (cases hq _ _ _ hh)
theorem iZ {Q1 Q2:Exit → Act → World → Prop}{l2:List Oper}(k:∀ e a w,Q1 e a w → e = .normal ∧ wpList P all Q2 l2 a w):∀ (l1:List Oper) (a:Act) (w:World),wpList P all Q1 l1 a w → wpList P all Q2 (l1 ++ l2) a w
 | [],a,w,h => (k _ _ _ h).2
 | o :: l1, a, w, h => by
  have hL : ¬ LetsOut Q1 := fun ⟨a,w,q⟩ => by cases (k _ _ _ q).1
  rw [List.cons_append]
  unfold wpList at h ⊢
  split
  ·rename_i hw
   rw [if_pos hw] at h
   rcases h with h | ⟨_,h⟩
   ·exact .inl (L0 (fun a w => iZ k l1 a w) (fun e a w q => (k e a w q).1) h)
   ·exact absurd h hL
  ·rename_i hw;rw [if_neg hw] at h;exact iZ k l1 _ _ h
theorem zE {l1 l2:List Oper}(h:RW P N all (fun e s' => e = .normal ∧ E7 P N all Q r ks l2 s') .txt l1 s):E7 P N all Q r ks (l1 ++ l2) s:=by
 intro C a w hN g
 obtain ⟨C',h1,h2,h3⟩ := g.base
 exact iZ (fun e a' w' ⟨s',⟨q1,q2⟩,q3⟩ => ⟨q1,q2 C a' w' hN (h3 _ _ _ q3)⟩) l1 a w (h C' a w (h1.trans hN) h2)
theorem Jw (h:Q .normal s ks):E7 P N all Q r ks [] s := fun C a w _ g => wpList_nil ⟨s,ks,h,g⟩
variable {rest : List Oper} {ts : List (Nat × AV)} {hs : List (Nat × Option (List AV))} {n : Nat} {z0 : Lo} {d : Nat} {ty : TypeId} {pos : String} {af : Array Edge}
theorem EU {dst:Option Tmp}{op:Op}{j e:Nat}{want b:Bool}(hj:(all[j]?).bind (·.dst) = some e) (hb:lk s.ts e = some (.v (.bool b))) (hw:b = want) (h:E7 P N all Q r ks (⟨dst,op,ty,pos,af,none⟩ :: rest) s) :
  E7 P N all Q r ks (⟨dst,op,ty,pos,af,some (j,want)⟩ :: rest) s := by
 subst hw
 intro C a w hN g
 have h' := h C a w hN g
 obtain ⟨⟨h0,ι,g,gh⟩,hm,hl⟩ := g
 have hyl : yielded all a.tmps j = some b := by
  obtain ⟨y,hy,hr⟩ := g.tm e _ hb
  simp only [Rd] at hr
  subst hr
  simp [yielded,hj,hy]
 unfold wpList at h' ⊢
 simp only [Region.wanted,hyl,if_true,beq_self_eq_true] at h' ⊢
 exact h'
theorem qB {w:World}{mt kt et:TypeId}{es:Array MapEntry}{ck:Nat}{a:Int}(hu:P.underlying mt = some (.map kt et)) (hk:P.underlying kt = some (.int .i64)) (hz:(P.info? et).bind (·.zero) = some (.bool false))
  (hb : w.heap[r]? = some (.map es ck)) (hn : ∀ e ∈ es.toList,∃ k,k ≠ a ∧ e.key = .int .i64 k) : (Instr.lookup mt (.map (some r)) (.int .i64 a) false).run P w = .ok (.bool false) w ∧ Instr.findNow (.int .i64) (.int .i64 a) es.toList 0 = some none := by
 have hkey : IsKey (.int .i64) (.int .i64 a) := by simp [IsKey]
 have hf : Instr.findNow (.int .i64) (.int .i64 a) es.toList 0 = some none := by
  rcases findNow_spec hkey es.toList 0 (fun x hx => by obtain ⟨k,_,h2⟩ := hn x hx;rw [h2]; simp [IsKey]) with ⟨h,_⟩ | ⟨j,e,_,h2,h3⟩
  ·exact h
  ·obtain ⟨k, h4, h5⟩ := hn e (List.mem_of_getElem? h2)
   rw [h5] at h3;cases h3;exact absurd rfl h4
 refine ⟨?_,hf⟩
 cases hi : P.info? et with
 | none => rw [hi] at hz;cases hz
 | some i =>
  rw [hi] at hz
  have hz2 : i.zero = some (.bool false) := hz
  simp [Instr.lookup,cG hu,Go.MapKept.run_getObj_map hb,run_checkKey hk hkey,run_findKey hk hf,zeroValue,typeInfo,hi,hz2,Result.andThen]
theorem BL {mt kt et:TypeId}{x y:Operand}{a:Int}(hu:P.underlying mt = some (.map kt et)) (hk:P.underlying kt = some (.int .i64)) (hz:(P.info? et).bind (·.zero) = some (.bool false))
  (hx : ev (lk ts) x = some (.v (.map (some r)))) (hy : ev (lk ts) y = some (.v (.int .i64 a))) (ha : a ∉ ks) (hN : Nat.blt d N = true) (kk : E7 P N all Q r ks rest ⟨(d,.v (.bool false)) :: ts,hs,n,z0⟩) :
  E7 P N all Q r ks (⟨some d,.lookup mt x y false,ty,pos,af,none⟩ :: rest) ⟨ts,hs,n,z0⟩ := by
 rintro C ac w hCN ⟨⟨h0,ι,g,gh⟩,⟨es,ck,hm,hkk⟩,hl⟩
 refine wpList_plain rfl (fun K hK => ?_)
 have e1 := bZ g hx
 have e2 := bZ g hy
 simp only [Rd] at e1 e2
 have hr := (qB (P := P) hu hk hz hm (a := a) (fun e he => by obtain ⟨k,h1,h2⟩ := hkk e he;exact ⟨k,fun q => ha (q ▸ h1),h2⟩)).1
 have hop : (execOp ac.eval ⟨some d, .lookup mt x y false, ty, pos, af, none⟩).run P w = .ok (.value (.bool false)) w := by
  simp [execOp,e1,e2,hr]
 simp only [Oper.wp,hop,Oper.upon]
 refine hK _ _ (kk C _ _ hCN ⟨⟨h0,ι,?_,gh⟩,⟨es,ck,hm,hkk⟩,hl⟩)
 show TG C ι (lk ((d,_) :: ts)) _ _ _
 rw [jM]
 exact g.put (by have := dN hN;omega) (by simp [Rd])
theorem B5 {mt kt et:TypeId}{x y z:Operand}{a:Int}(hu:P.underlying mt = some (.map kt et)) (hk:P.underlying kt = some (.int .i64)) (hz:(P.info? et).bind (·.zero) = some (.bool false))
  (hx : ev (lk ts) x = some (.v (.map (some r)))) (hy : ev (lk ts) y = some (.v (.int .i64 a))) (ha : a ∉ ks) (kk : E7 P N all Q r (ks ++ [a]) rest ⟨ts,hs,n,z0⟩) :
  E7 P N all Q r ks (⟨none,.mapUpdate mt x y z,ty,pos,af,none⟩ :: rest) ⟨ts,hs,n,z0⟩ := by
 rintro C ac w hCN ⟨⟨h0,ι,g,gh⟩,⟨es,ck,hm,hkk⟩,hl⟩
 refine wpList_plain rfl (fun K hK => ?_)
 have e1 := bZ g hx
 have e2 := bZ g hy
 simp only [Rd] at e1 e2
 have hkey : IsKey (.int .i64) (.int .i64 a) := by simp [IsKey]
 have hf := (qB (P := P) hu hk hz hm (a := a) (fun e he => by obtain ⟨k,h1,h2⟩ := hkk e he;exact ⟨k,fun q => ha (q ▸ h1),h2⟩)).2
 let o2 : Obj := .map (es.push { key := .int .i64 a,val := ac.eval z,born := ck }) (ck + 1)
 let w2 : World := { w with heap := w.heap.setIfInBounds r o2 }
 have hop : (execOp ac.eval ⟨none, .mapUpdate mt x y z, ty, pos, af, none⟩).run P w = .ok .skip w2 := by
  simp [execOp,e1,e2,Instr.mapUpdate,cG hu,Go.MapKept.run_getObj_map hm,run_checkKey hk hkey,run_findKey hk hf,Go.MapKept.run_setObj_map _ hm,Result.andThen,w2,o2]
 obtain ⟨hs1,hs2⟩ := heap_set (o' := o2) hm
 have hne : ∀ b c e f,w.heap[b]? = some (.cells c e f) → b ≠ r := fun b c e f h q => by subst q;rw [hm] at h;cases h
 have hbs : ∀ b, rK w2 b = rK w b := fun b => by
  by_cases e : b = r
  ·subst e;show (match w2.heap[b]? with|some (.cells c _ _) => c.size | _ => 0) = _; rw [show w2.heap[b]? = some o2 from hs1]; simp [rK,hm,o2]
  ·exact nR (hs2 b e)
 have hcell : ∀ b o v, w.cell? ⟨b, o, none⟩ = some v → w2.cell? ⟨b, o, none⟩ = some v := fun b o v h => by
  have : b ≠ r := fun q => by subst q;rw [World.cell?] at h;simp [hm] at h
  rw [c7 (hs2 b this)]; exact h
 have car : ∀ bad : Nat → Prop,Carry w bad ι w2 bad ι := fun bad => ⟨fun b o v h1 h2 => ⟨h1,hcell b o v h2⟩,fun _ _ h => h,fun b => Nat.le_of_eq (hbs b).symm⟩
 simp only [Oper.wp,hop,Oper.upon]
 refine hK _ _ (kk C _ _ hCN ⟨⟨h0,ι,?_,?_⟩,⟨_,_,hs1,?_⟩,hl⟩)
 ·exact g.carry (car _)
 ·refine ⟨fun id cs h => ?_, gh.sep, ⟨gh.fr.os, gh.fr.tape, gh.fr.output, by show C.w0.heap.size ≤ (w.heap.setIfInBounds r o2).size; rw [Array.size_setIfInBounds]; exact gh.fr.size, fun b hb hw => ?_, fun b => by rw [hbs]; exact gh.fr.bs b⟩, gh.ex, gh.fresh⟩
  ·rcases gh.obj id cs h with h1 | ⟨b', β', arr, e, h3, h4, h5, h6, h7, h8⟩
   ·exact .inl h1
   ·exact .inr ⟨b',β',arr,e,h3,by rw [show w2.heap[b']? = w.heap[b']? from hs2 b' (hne _ _ _ _ h4)]; exact h4,h5,RdC.carryB (car _) _ _ _ (fun o v hv => hcell b' o v hv) h6,h7,h8⟩
  ·rw [show w2.heap[b]? = w.heap[b]? from hs2 b (by omega)]; exact gh.fr.block b hb hw
 ·intro e he
  rw [Array.toList_push,List.mem_append,List.mem_singleton] at he
  rcases he with he|rfl
  ·obtain ⟨k,h1,h2⟩ := hkk e he;exact ⟨k,List.mem_append_left _ h1,h2⟩
  ·exact ⟨a,by simp,rfl⟩
theorem HZ {Q:Exit → AS → Prop}{id:Nat}{t:TypeId}{y:Code}(hN:Nat.blt d N = true)
  (h : ∀ r,E7 P N (⟨some d,.makeMap t none,ty,pos,af,none⟩ :: rest).toArray (fun e s' ks' => e = .normal ∧ qP P N y (fun e s' _ => Q e s') r ks' s') r [] rest ⟨(d,.v (.map (some r))) :: ts,hs,n,z0⟩) :
  AW P N (.seq (.region id (⟨some d,.makeMap t none,ty,pos,af,none⟩ :: rest).toArray false) y) Q ⟨ts,hs,n,z0⟩ := by
 rintro C ac w hCN ⟨h0,ι,g,gh⟩
 refine wp_seq (wp_region_lit (wpList_plain rfl (fun K hK => ?_)))
 have hop : (execOp ac.eval ⟨some d, .makeMap t none, ty, pos, af, none⟩).run P w = .ok (.value (.map (some w.heap.size))) (w.alloc (.map #[] 0)) := by
  simp [execOp,Instr.makeMap,newObj,Sem.run]
 have f : Fr (fun _ => False) w (w.alloc (.map #[] 0)) := by
  refine ⟨rfl,rfl,rfl,by simp,fun b hb _ => Below.heap_alloc w _ b hb,fun b => ?_⟩
  rcases Nat.lt_or_ge b w.heap.size with hb|hb
  ·rw [nR (Below.heap_alloc w _ b hb)]; exact Nat.le_refl _
  ·simp [rK,Array.getElem?_eq_none hb]
 obtain ⟨g2,c2⟩ := gh.ext f
 simp only [Oper.wp,hop,Oper.upon]
 refine hK _ _ ?_
 have hh := h w.heap.size C (ac.put (some d) (.map (some w.heap.size))) (w.alloc (.map #[] 0)) hCN ⟨⟨h0,ι,?_,g2⟩,⟨#[],0,heap_alloc_new w _,by simp⟩,gh.fr.size⟩
 ·have := iZ (l2 := []) (P := P) (Q2 := Exit.then (y.wp P (fun e a' w' => ∃ s', Q e s' ∧ Gs C s' a' w')) (fun e a' w' => ∃ s', Q e s' ∧ Gs C s' a' w')) (all := (⟨some d, .makeMap t none, ty, pos, af, none⟩ :: rest).toArray)
   (k := fun e a' w' ⟨s', ks', ⟨q1, q2⟩, q3⟩ => ⟨q1, by
    subst q1
    exact wpList_nil (wp_mono (q2 C a' w' hCN q3) (fun e a'' w'' ⟨s'',ks'',u1,u2⟩ => ⟨s'',u1,u2.g⟩))⟩) rest _ _ hh
  rw [List.append_nil] at this
  exact this
 ·show TG C ι (lk ((d, _) :: ts)) _ _ _
  rw [jM]
  exact (g.carry c2).put (by have := dN hN;omega) (by simp [Rd])
theorem Hj {K K2:AS → List Int → Prop}{id:Nat}(h:Q .normal s ks):rP K (rP K2 (IJ id Q)) (.exit id) s ks:=by
 have e : rP K (rP K2 (IJ id Q)) (.exit id) s ks = (if id = id then Q .normal s ks else Q (.exit id) s ks) := rfl
 rw [e,if_pos rfl]; exact h
theorem GO {Q:Exit → AS → Prop}{id:Nat}{t:TypeId}{y:Code}(h:Stop (AW P N (.seq (.region id (⟨some d,.makeMap t none,ty,pos,af,none⟩ :: rest).toArray false) y) Q s)) :
  AW P N (.seq (.region id (⟨some d,.makeMap t none,ty,pos,af,none⟩ :: rest).toArray false) y) Q s := h
theorem L1 {Q:Exit → AS → Prop}{c:Code}(h:AW P N c Q s):Stop (AW P N c Q s) := h
theorem y6 {l:List Oper}(h:RW P N all (fun e s' => e = .normal ∧ Q e s' ks) .txt l s):E7 P N all Q r ks l s:=by
 intro C a w hN g
 obtain ⟨C',h1,h2,h3⟩ := g.base
 have := iZ (l2 := []) (P := P) (all := all) (Q1 := fun e a' w' => ∃ s', (e = .normal ∧ Q e s' ks) ∧ Gs C' s' a' w') (Q2 := fun e a' w' => ∃ s' ks', Q e s' ks' ∧ GsM C s' r ks' a' w')
  (k := fun e a' w' ⟨s',⟨q1,q2⟩,q3⟩ => ⟨q1,by subst q1;exact wpList_nil ⟨s',ks,q2,h3 _ _ _ q3⟩⟩) l a w (h C' a w (h1.trans hN) h2)
 rwa [List.append_nil] at this
end
section
variable {P : Program} {N : Nat} {Q : Exit → AS → Prop} {all : Array Oper} {rest : List Oper} {ts : List (Nat × AV)} {hs : List (Nat × Option (List AV))} {n : Nat} {z0 : Lo} {md : Md}
variable {d : Nat} {ty : TypeId} {pos : String} {af : Array Edge}
theorem iL {α:Type}{hα:Inhabited α}{f g:α → List AV}{xs:List α}{e id k j z:Nat}{t:TypeId}{x:Operand}{cs':List AV}[ha:AgT P t true] [hz:SzT P t z] (hx:ev (lk ts) x = some (.optr id (0 + k * e + j)))
  (hH : aO hs id = some (flat f xs)) (hf : FlT f e) (hg : FE f g) (hk : k < xs.length) (hj : j + z ≤ e) (hc : ((g xs[k]!).drop j).take z = cs') (h0 : Nat.blt 0 z = true) (hN : Nat.blt d N = true) {md' : Md} [hmd : MdA md (rO x ++ rA (.optr id (0 + k * e + j))) [.inl d] md']
  (kk : RW P N all Q md' rest ⟨(d,.agg cs') :: ts,hs,n,z0⟩) : RW P N all Q md (⟨some d,.load t x,ty,pos,af,none⟩ :: rest) ⟨ts,hs,n,z0⟩ := by
 have hl : (g xs[k]!).length = e := by rw [← hg.pf]; exact hf.pf _
 subst hc
 refine jX (cs := (flat f xs).drop (0 + k * e + j)) hx ha.pf hz.pf (by simp only [deref,hH,Option.map_some]) (cs' := ((g xs[k]!).drop j).take z) ?_ (by rw [List.length_take,List.length_drop,hl]; omega) (by have := dN h0;omega) (dN hN) (by rw [hmd.pf]; exact kk)
 rw [Nat.zero_add,← List.drop_drop,eX f xs k hk,← hg.pf,List.drop_append_of_le_length (by rw [hf.pf]; omega),List.take_append_of_le_length (by rw [List.length_drop,hf.pf]; omega)]
end
theorem DV (c:Int):iD .and .i64 c 1 = some (.int .i64 (c % 2)):=by
 have h : (BitVec.ofInt 64 c &&& BitVec.ofInt 64 1).toNat = (c % 2).toNat := by
  rw [BitVec.toNat_and,show (BitVec.ofInt 64 1).toNat = 1 from rfl,Nat.and_one_is_mod,BitVec.toNat_ofInt]
  omega
 have e : iD .and .i64 c 1 = some (.int .i64 (IntKind.i64.wrap ((BitVec.ofInt 64 c &&& BitVec.ofInt 64 1).toNat : Int))) := rfl
 rw [e,h]
 rcases Int.emod_two_eq c with h2|h2 <;> rw [h2] <;> rfl
section
variable {P : Program} {N : Nat} {Q : Exit → AS → Prop} {all : Array Oper} {rest : List Oper} {ts : List (Nat × AV)} {hs : List (Nat × Option (List AV))} {n : Nat} {z0 : Lo} {md : Md}
variable {d : Nat} {ty : TypeId} {pos : String} {af : Array Edge}
theorem Iv {t t':TypeId}{x y:Operand}{c:Int}(hx:ev (lk ts) x = some (.v (.int .i64 c))) (hy:ev (lk ts) y = some (.v (.int .i64 1)))
  (hN : Nat.blt d N = true) {md' : Md} [hmd : MdA md (rO x ++ rO y) [.inl d] md'] (kk : RW P N all Q md' rest ⟨(d,.v (.int .i64 (c % 2))) :: ts,hs,n,z0⟩) : RW P N all Q md (⟨some d,.binOp .and t x y t',ty,pos,af,none⟩ :: rest) ⟨ts,hs,n,z0⟩ :=
 fG hx hy (.inl rfl) (DV c) (dN hN) (by rw [hmd.pf]; exact kk)
end
theorem DA {P:Program}{N:Nat}{Q:Exit → AS → Prop}{all:Array Oper}{rest:List Oper}{ts:List (Nat × AV)}{hs:List (Nat × Option (List AV))}{n:Nat}{z0:Lo}{d:Nat}{ty:TypeId}{pos:String}{af:Array Edge}
  {t t' el : TypeId} {x : Operand} {id off m e : Nat} [ht : SlT P t el] (hx : ev (lk ts) x = some (.own id off m e)) (hN : Nat.blt d N = true)
  (kk : ∀ b : Bool,(b = true → m = 0) → RW P N all Q .txt rest ⟨(d,.v (.bool b)) :: ts,hs,n,z0⟩) : RW P N all Q .txt (⟨some d,.binOp .eql t x (.const (.slice none 0 0)) t',ty,pos,af,none⟩ :: rest) ⟨ts,hs,n,z0⟩ := by
 rintro C a w hCN ⟨h0,ι,g,gh⟩
 refine wpList_plain rfl (fun K hK => ?_)
 have h1 := bZ g hx
 simp only [Rd] at h1
 obtain ⟨a', m', c, h2, hb⟩ : ∃ a' m' c, a.eval x = .slice a' m' c ∧ (a'.isNone = true → m = 0) := by
  rcases h1 with ⟨_,rfl,a',h2⟩ | ⟨b,β,c,_,h2,_⟩
  ·exact ⟨a',0,0,h2,fun _ => rfl⟩
  ·exact ⟨_,m,c,h2,fun h => by cases h⟩
 have hu := kG ht.pf
 have hg : (eqGuard .eql t x (.const (.slice none 0 0)) (.slice a' m' c) (.slice none 0 0)).run P w = .ok () w := by simp [eqGuard]
 have hr : (execOp a.eval ⟨some d, .binOp .eql t x (.const (.slice none 0 0)) t', ty, pos, af, none⟩).run P w = .ok (.value (.bool a'.isNone)) w := by
  have e2 : a.eval (.const (.slice none 0 0)) = .slice none 0 0 := rfl
  simp only [execOp,h2,e2,Sem.run_bind,hg,Result.andThen_ok,uV w t el hu,Sem.run_pure]
 simp only [Oper.wp,hr,Oper.upon]
 refine hK _ _ (kk a'.isNone hb C _ _ hCN ⟨h0,ι,?_,gh⟩)
 show TG C ι (lk ((d,AV.v (.bool a'.isNone)) :: ts)) _ _ _
 rw [jM]
 exact g.put (by have := dN hN;omega) (by simp [Rd])
section
variable {P : Program} {N : Nat} {Q : Exit → AS → Prop} {all : Array Oper} {rest : List Oper} {ts : List (Nat × AV)} {hs : List (Nat × Option (List AV))} {n : Nat} {z0 : Lo} {md : Md}
variable {d : Nat} {ty : TypeId} {pos : String} {af : Array Edge}
theorem Dv {k:FuncId}{t:Nat}{args:Array Operand}{tys:Array TypeId}{avs avs0 f c:List AV}{fv:AV}{H0:List (Nat × Option (List AV))}{rr rr':AV}{hh:List (Nat × Option (List AV))}
  (mp : List Nat) (n1 : Nat) (ws : List (Nat × Option (List AV))) (h : MC P k avs0 H0 mp.length (fun _ : Unit => True) (fun _ => rr) (fun _ => hh)) (hx : lk ts t = some fv) (hcl : tV fv = some (k,f,c)) [hc : CaT P k] (ha : evL (lk ts) args.toList = some avs) (hd : distinct mp = true)
  (hH0 : sV hs H0 mp 0 mp) (hk : gI mp.length H0 = true) (har : RnL (mp[·]?) avs0 (f ++ avs ++ c)) (hM : Nat.ble (n + (n1 - mp.length)) aQ = true)
  (hr : RnV (yT mp n n1) rr rr') (hwa : vI mp ws = true) (hw : qF (yT mp n n1) hh ws) (hN : Nat.blt d N = true)
  {md' : Md} [hmd : MdA md (rO (.tmp t) ++ fR args.toList ++ mp.map .inr) (ws.map (fun p => .inr p.1) ++ [.inl d]) md']
  (kk : RW P N all Q md' rest ⟨(d,rr') :: ts,iB hs ws,n + (n1 - mp.length),z0⟩) : RW P N all Q md (⟨some d,.call ⟨.value (.tmp t),args,tys⟩,ty,pos,af,none⟩ :: rest) ⟨ts,hs,n,z0⟩ := by
 have hM' := Nat.le_of_ble_eq_true hM
 have kk2 : RW P N all Q (md.add (rO (.tmp t) ++ fR args.toList ++ mp.map .inr) (ws.map (fun p => .inr p.1) ++ wD (some d))) rest (put ⟨ts, iB hs ws, n + (n1 - mp.length), z0⟩ (some d) rr') := by
  simp only [wD]; rw [hmd.pf]; exact kk
 refine hO (rs := rO (.tmp t) ++ fR args.toList ++ mp.map .inr) (ws := ws) (n' := n + (n1 - mp.length)) (out := rr') rfl (Nat.le_add_right _ _) (.inr hM') (fun C ι F T H a w K Q' hCN ag hF g gh hK => ?_) (fun x e => by cases e;exact dN hN) kk2
 obtain ⟨lf,lc,hy,h1,h2⟩ := vJ hcl (bZ g (x := .tmp t) (ag.l.l.ev.trans hx))
 simp only [Oper.wp,rU hc.pf _ a w hy,Oper.upon]
 refine (zT (nid := n) (n1 := n1) h hd gh (fun j i hj => ?_) (pV hk) har hF (fun _ _ => hr) (fun _ _ => Dp hwa hw) (iR (iR h1 (iM g (ag.l.r.evL.trans ha))) h2)).mono ?_
 ·obtain ⟨cs, cs', q1, q2, q3⟩ := tI hH0 j i hj
  exact ⟨cs,cs',by simpa using q1,by rw [ag.r.h i (List.mem_map_of_mem (List.mem_of_getElem? hj))]; exact q2,q3⟩
 ·rintro e w' ⟨v, x, ι', rfl, hx, g', c', hrd⟩
  exact hK ι' w' v (g.carry c') g' hrd
end
theorem IU {ts:List Int}{pts:List Pnt}(w:WG ts pts) (f:Flows ts pts){Al Af:List Nat}(hlf:Af.length = pts.length * 6){i:Nat}(hi:i < pts.length) (hal:Al[i]! < 2 ^ ts.length):M4 ts pts f.Aa (xK ts pts f.Am Al Af f.Ap i) i = Bf ts pts f.Aa f.Am Al Af f.Ap i:=by
 have htl := w.tl
 have hpl := w.pl
 have hset := w.set i hi
 unfold M4 Bf
 congr 1
 ·unfold nG
  have hsm : Sm (gX (wS ts pts[i]! [1, 2, 3]) f.Aa[i]!) := by
   have : Sm (wS ts pts[i]! [1,2,3]) := bO (by omega)
   infer_instance
  rw [n5 (n := ts.length) (p := qA ts pts f.Aa i) hsm (by omega) fun v => ?_,List.map_map]
  ·rfl
  ·rw [b6, cH, Bool.and_assoc]
   congr 1
   unfold qA
   congr 1
   have hu := oP ts pts[i]! v
   by_cases e : a9 ts pts[i]! v = 0
   ·rw [e]; rfl
   ·rw [decide_eq_false e]
    have : a9 ts pts[i]! v ∈ ([1, 2, 3] : List Int) := by
     simp only [List.mem_cons,List.not_mem_nil,or_false]; omega
    rw [decide_eq_true this]; rfl
 ·unfold nE
  have hap : f.Ap[i]! < 2 ^ pts.length := by
   apply Nat.lt_pow_two_of_testBit
   intro l hl
   rw [Bool.eq_false_iff]; intro hq
   have := (lD ((f.gp.2 i hi l).1 hq)).1
   dsimp only at this;omega
  have hcn := pE w (Am := f.Am) (Al := Al) (Af := Af) hap
  have hsm : Sm (z8 ts pts f.Am Al Af f.Ap i) := ⟨Nat.lt_of_lt_of_le hcn (Nat.pow_le_pow_right (by decide) (by omega))⟩
  rw [n5 (n := pts.length) (p := fun l => (xK ts pts f.Am Al Af f.Ap i)[l]!) hsm (by omega) fun l => ?_,List.map_map]
  ·rfl
  ·by_cases hl : l < pts.length
   ·rw [decide_eq_true hl, Bool.true_and, Bool.eq_iff_iff]
    have hloans : Sm (mX ts pts[i]! Al[i]! (b7 Af i) &&& f.Ap[i]!) := ⟨Nat.lt_of_lt_of_le (Nat.and_lt_two_pow _ hap) (Nat.pow_le_pow_right (by decide) (by omega))⟩
    have hacc : fE ts pts[i]! (bE ts.length pts.length f.Am)[i]![(aN pts[i]!).toNat]! = fE ts pts[i]! (f.Am[i]!.testBit (aN pts[i]!).toNat) := Hf fun h0 => gH _ _ _ _ _ hi (by omega)
    have hkp : (mX ts pts[i]! Al[i]! (b7 Af i)).testBit l = true ↔ (uA ts pts[i]! (dX ts.length pts.length Af f.Ap i).1 (bE ts.length pts.length Al)[i]! pts.length)[l]! = true := by
     unfold uA
     rw [aX _ _ _ hl]
     unfold mX
     rw [eR,List.any_eq_true,cD _ _ _ _ hi]
     simp only [Nat.zero_testBit,Bool.false_eq_true,false_or,List.length_map,List.length_range,List.mem_range]
     constructor
     ·rintro ⟨z, hz, h2⟩
      obtain ⟨v,h3,h4,rfl⟩ := cL.1 hz
      rw [b6,Nat.testBit_or,cH,dT (by omega)] at h4
      simp only [Bool.and_eq_true,Bool.not_eq_true',Bool.or_eq_false_iff,Bool.and_eq_false_iff,decide_eq_false_iff_not] at h4
      have hv := b9 hal h4.1
      refine ⟨v,hv,?_⟩
      unfold Bb
      rw [aX _ _ _ hv,h4.1,decide_eq_false h4.2.2]
      have hu : ¬ a9 ts pts[i]! v = 2 := by
       rcases h4.2.1 with h5|h5
       ·exact absurd hv h5
       ·simpa using h5
      rw [decide_eq_false hu]
      unfold dX
      dsimp only
      rw [aX _ _ _ hv,aX _ _ _ hl]
      have h6 : (b7 Af i)[v]! = Af[i * 6 + v]! := dV hlf hi (by omega)
      rw [Int.toNat_natCast,h6] at h2
      rw [h2]; rfl
     ·rintro ⟨v, hv, h2⟩
      unfold Bb at h2
      rw [aX _ _ _ hv] at h2
      unfold dX at h2
      dsimp only at h2
      rw [aX _ _ _ hv,aX _ _ _ hl] at h2
      simp only [Bool.and_eq_true,Bool.not_eq_true',decide_eq_false_iff_not] at h2
      refine ⟨(v : Int),cL.2 ⟨v,by omega,?_,rfl⟩,?_⟩
      ·rw [b6, Nat.testBit_or, cH, dT (by omega), h2.1, decide_eq_false h2.2.1]
       have : decide (a9 ts pts[i]! (v : Int) ∈ ([2] : List Int)) = false := by simpa using h2.2.2.1
       rw [this]; simp
      ·rw [Int.toNat_natCast,dV hlf hi (by omega)]; exact h2.2.2.2
    have hplc : (dX ts.length pts.length Af f.Ap i).2[l]! = f.Ap[i]!.testBit l := by unfold dX;dsimp only;rw [aX _ _ _ hl]
    unfold z8 xK
    rw [jN _ _ _ hloans,xQ _ _ _ _ _ hl,hacc,List.any_eq_true]
    simp only [Nat.zero_testBit,Bool.false_eq_true,false_or]
    constructor
    ·rintro ⟨c, hc, h1, h2, h3⟩
     rw [Nat.testBit_and,Bool.and_eq_true] at h1
     rw [gU] at h2
     simp only [Bool.and_eq_true,decide_eq_true_eq] at h2
     have hy := nD w hl h2.2.1
     have hcv := wJ _ w hi c hc
     refine ⟨c,hc,?_⟩
     unfold Fa
     have e2 := h2.2.2
     rw [Nat.testBit_two_pow,decide_eq_true_eq] at e2
     rw [hkp.1 h1.1,hplc,h1.2,decide_eq_true (by omega : pts[l]!.y = c.var)]
     rcases h3 with h3|h3
     ·rw [h3]; rfl
     ·rw [decide_eq_true h3]; simp
    ·rintro ⟨c, hc, h1⟩
     unfold Fa at h1
     rw [hplc] at h1
     simp only [Bool.and_eq_true,Bool.or_eq_true,decide_eq_true_eq] at h1
     obtain ⟨⟨⟨h1,h2⟩,h3⟩,h4⟩ := h1
     have hln := (lD ((f.gp.2 i hi l).1 h2)).2
     dsimp only at hln
     refine ⟨c,hc,?_,?_,h4⟩
     ·rw [Nat.testBit_and,hkp.2 h1,h2]; rfl
     ·rw [gU,decide_eq_true hl,hln,← h3,Nat.testBit_two_pow_self]; rfl
   ·rw [decide_eq_false hl, Bool.false_and]
    exact Nat.testBit_lt_two_pow (Nat.lt_of_lt_of_le hcn (Nat.pow_le_pow_right (by decide) (by omega)))
def Ai (ts : List Int) (pts : List Pnt) (Am : List Nat) : List Nat := (List.range pts.length).map fun (i : Nat) => gF ts pts[i]! Am[i]!
theorem Dn (ts:List Int) (pts:List Pnt) (Am:List Nat):(Ai ts pts Am).length = pts.length := by simp [Ai]
theorem qQ (ts:List Int) (pts:List Pnt) (Am:List Nat){i:Nat}(hi:i < pts.length):(Ai ts pts Am)[i]! = gF ts pts[i]! Am[i]! := aX _ _ _ hi
def Lx (p : Prg) (f : Flows p.types (aB p)) : List Iss := kH p.types (aB p) f.Aa f.Am (Ai p.types (aB p) f.Am) f.Af f.Ap (aB p).length
end Go.AL
namespace Go.AL
def E0 (L : List (List Iss)) : Nat := (L.filter fun l => !l.isEmpty).length
theorem Gx (L:List (List Iss)) (l:List Iss):E0 (L ++ [l]) = E0 L + (if l = [] then 0 else 1):=by
 unfold E0;rw [List.filter_append,List.length_append]; cases l <;> rfl
noncomputable def DT (p : Prg) (hv : bI p = true) : Flows p.types (aB p) := Classical.choice (Flows.ex (WG.of_valid hv))
noncomputable def Np (p : Prg) (hv : bI p = true) : List Nat := Classical.choose (GoodG.exist (WG.of_valid hv) (WT.of_valid hv))
theorem Gr (p:Prg) (hv:bI p = true):GoodG p.types (aB p) (Np p hv) := Classical.choose_spec (GoodG.exist (WG.of_valid hv) (WT.of_valid hv))
noncomputable def NL (p : Prg) (hv : bI p = true) : List (List Iss) := [Lx p (DT p hv),KC p (DT p hv) (Np p hv),(DT p hv).iss]
mutual
def Ds : Stmt → Prop
 | .mk _ _ _ _ th el => (th.length ≤ 9223372036854775807 ∧ H7 th) ∧ (el.length ≤ 9223372036854775807 ∧ H7 el)
def H7 : List Stmt → Prop
 | [] => True
 | s :: l => Ds s ∧ H7 l
end
def H9 (l : List Stmt) : Prop := l.length ≤ 9223372036854775807 ∧ H7 l
theorem CI:∀ {l:List Stmt}{s:Stmt},H7 l → s ∈ l → Ds s
 | a :: l, s, h, hm => by
  simp only [H7] at h
  rcases List.mem_cons.1 hm with rfl|hm
  ·exact h.1
  ·exact CI h.2 hm
theorem KZ {l:List Stmt}{k:Nat}(h:H9 l) (hk:k < l.length):Ds l[k]! := CI h.2 (aP l k hk)
theorem LC {s:Stmt}(h:Ds s):H9 s.th ∧ H9 s.el:=by
 cases s
 simp only [Ds] at h
 exact h
theorem HB:∀ {l:List Stmt},(∀ s ∈ l,Ds s) → H7 l
 | [],_ => by simp only [H7]
 | s :: l,h => by simp only [H7]; exact ⟨h s (by simp),HB fun x hx => h x (by simp [hx])⟩
def mU : List Stmt → Nat
 | [] => 0
 | s :: l => aU s.th + aU s.el + mU l
theorem Hz:∀ l:List Stmt,aU l = l.length + mU l
 | [] => by simp [aU,mU]
 | s :: l => by
  have := Hz l
  simp only [aU,mU,l7,List.length_cons]; omega
theorem rR:∀ a b:List Stmt,mU (a ++ b) = mU a + mU b
 | [],b => by simp [mU]
 | s :: a, b => by
  have := rR a b
  simp only [List.cons_append,mU]; omega
theorem DK {l:List Stmt}{k:Nat}(hk:k < l.length):mU (l.take (k + 1)) = mU (l.take k) + (aU l[k]!.th + aU l[k]!.el):=by
 have e : l.take (k + 1) = l.take k ++ [l[k]!] := by rw [a8 _ _ hk,List.take_succ_eq_append_getElem hk]
 rw [e,rR]; simp only [mU]; omega
theorem JZ (l:List Stmt) (k:Nat):mU (l.take k) ≤ mU l:=by
 have := rR (l.take k) (l.drop k)
 rw [List.take_append_drop] at this;omega
def Gu (c left : Int) : Int := if c ≤ left then left - c else -1
def NA : Stmt := .mk 0 0 0 0 [] []
theorem F3 {w:World}{bad:Nat → Prop}{ι:Pl}{b:Nat}:∀ (m β:Nat),RdC w bad ι ((List.replicate m ([Value.int .i64 0,.int .i64 0,.int .i64 0,.int .i64 0,.slice none 0 0,.slice none 0 0].map AV.v)).flatten) b β → RdC w bad ι (flat aZ (List.replicate m NA)) b β
 | 0,_,_ => trivial
 | m + 1, β, h => by
  rw [List.replicate_succ,List.flatten_cons] at h
  rw [List.replicate_succ]
  obtain ⟨g0,g1,g2,g3,⟨x4,p4,q4,r4⟩,⟨x5,p5,q5,r5⟩,h4⟩ := h
  exact ⟨g0,g1,g2,g3,⟨x4,p4,q4,lE (av := .v (.slice none 0 0)) r4⟩,⟨x5,p5,q5,lE (av := .v (.slice none 0 0)) r5⟩,F3 m _ h4⟩
theorem Le.zeroS {ts:List (Nat × AV)}{hs:List (Nat × Option (List AV))}{n:Nat}{z0:Lo}{i m:Nat}(hi:aO hs i = some ((List.replicate m ([Value.int .i64 0,.int .i64 0,.int .i64 0,.int .i64 0,.slice none 0 0,.slice none 0 0].map AV.v)).flatten)) :
  Le ⟨ts,hs,n,z0⟩ ⟨ts,(i,some (flat aZ (List.replicate m NA))) :: hs,n,z0⟩ :=
 Le.cells hi (by rw [aI aZ (e := 6)]; simp) fun w bad ι b β h => F3 m β h
end Go.AL
