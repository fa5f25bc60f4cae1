/-
 A part of the proofs over this program: rules and contracts of its functions (the rules).
-/
import Derived.Test.YtahdccneecdmmaaGreatJ5A06
set_option linter.unusedVariables false
set_option linter.unusedSimpArgs false
namespace Go.AL
def nD (n : Nat) (A : List Nat) : List Nat := (List.replicate n A).flatten
theorem oF (A:List Nat) (h:A.length = 6):∀ n,(nD n A).length = n * 6
 | 0 => rfl
 | n + 1 => by unfold nD;rw [List.replicate_succ,List.flatten_cons,List.length_append]; have := oF A h n;unfold nD at this;omega
theorem pR (A:List Nat) (h:A.length = 6):∀ n i,i < n → cD (nD n A) i = A
 | n + 1, 0, _ => by
  unfold cD nD;rw [List.replicate_succ,List.flatten_cons,Nat.zero_mul,List.drop_zero,← h,List.take_left]
 | n + 1, i + 1, hi => by
  have := pR A h n i (by omega)
  unfold cD nD at this ⊢
  rw [List.replicate_succ,List.flatten_cons,show (i + 1) * 6 = A.length + i * 6 by omega,List.drop_append,List.drop_eq_nil_of_le (by omega),List.nil_append,show A.length + i * 6 - A.length = i * 6 by omega]
  exact this
def z7 (p : Prg) (f : Flows p.types (aB p)) (A : List Nat) : List Iss := iC p.types (aB p) f.Aa f.Am f.Al (nD (aB p).length A) f.Ap (aB p).length
section
variable {ts : List Int} {pts : List Pnt}
theorem OU {l:Nat}(hl:l < pts.length) (h:bT pts[l]! = true):(⟨pts[l]!.x,l,-1⟩:Bnd) ∈ j8 ts pts pts.length :=
 yE.2 ⟨l,hl,by unfold Jt;rw [if_pos h]; simp⟩
theorem OL {i:Nat}(hi:i < pts.length) (h:(bT pts[i]! = true ∨ pts[i]!.op = 3) ∧ dV ts[pts[i]!.y.toNat]! = true):(⟨pts[i]!.x,-1,pts[i]!.y⟩:Bnd) ∈ j8 ts pts pts.length :=
 yE.2 ⟨i,hi,by unfold Jt;rw [if_pos h]; simp⟩
theorem BD {x:Pnt}(h:bT x = true ∨ x.op = 3):aL x = x.x:=by
 unfold aL
 rw [if_pos]
 rcases h with h|h
 ·have := fN h;omega
 ·omega
theorem O4 (w:WG ts pts) (t:WT ts pts){a:Nat × Nat × Nat}(h:Dy ts pts a):dV ts[a.2.1]! = true ∧ Rg ts pts (a.2.1,a.2.2):=by
 induction h with
 | @base a h =>
  obtain ⟨e,h1,h2⟩ := h
  rw [BD (.inl h1)] at h2
  have h3 := (t.ln _ e.1 (fN h1)).1
  rw [show pts[a.2.2]!.x.toNat = a.2.1 by omega] at h3
  exact ⟨h3,.base ⟨_,OU e.1 h1,h2,rfl⟩⟩
 | @step a b _ r ih =>
  obtain ⟨e,e1,h⟩ := r
  rcases h with ⟨_,h2,_⟩ | ⟨h1,h2,h3⟩
  ·rw [h2,e]; exact ih
  ·have hk : bT pts[a.1]! = true ∨ pts[a.1]!.op = 3 := h3.imp (·.1) id
   rw [BD hk] at h1
   have hy : pts[a.1]!.y.toNat = a.2.1 := by omega
   have hx : pts[a.1]!.x.toNat = b.2.1 := by omega
   have href : dV ts[pts[a.1]!.y.toNat]! = true := by rw [hy]; exact ih.1
   refine ⟨?_,.step (a := (a.2.1,a.2.2)) ih.2 ⟨e,_,OL e1.1 ⟨hk,href⟩,h2.symm,h1⟩⟩
   rcases hk with hk|hk
   ·have h4 := (t.ln _ e1.1 (fN hk)).1;rw [hx] at h4;exact h4
   ·have h4 := (t.mv _ e1.1 hk).1;rw [hx] at h4;rw [h4]; exact href
theorem JV {x:Pnt}{live:Nat}{f g:List Nat}(h:∀ v:Nat,∀ l,f[v]!.testBit l = true → g[v]!.testBit l = true){l:Nat}(hl:(kN ts x live f).testBit l = true):(kN ts x live g).testBit l = true:=by
 unfold kN at hl ⊢
 rw [c9] at hl ⊢
 rcases hl with h1 | ⟨z,hz,h1⟩
 ·exact .inl h1
 ·exact .inr ⟨_,hz,h _ l h1⟩
theorem KK (w:WG ts pts) (f:Flows ts pts){Af':List Nat}{i:Nat}(h:∀ v:Nat,∀ l,(cD f.Af i)[v]!.testBit l = true → (cD Af' i)[v]!.testBit l = true){l:Nat}(hl:(rW ts pts f.Am f.Al f.Af f.Ap i).testBit l = true):(rW ts pts f.Am f.Al Af' f.Ap i).testBit l = true:=by
 have b := f.bnd w
 have hpl := w.pl
 have hs : ∀ K : Nat,Sm (K &&& f.Ap[i]!) := fun K => iM (n := pts.length) (by omega) (Nat.and_lt_two_pow _ (b.bP i))
 unfold rW at hl ⊢
 rw [eZ _ _ _ (hs _)] at hl ⊢
 rcases hl with hl | ⟨c,hc,h1,h2⟩
 ·exact .inl hl
 ·refine .inr ⟨c, hc, ?_, h2⟩
  rw [Nat.testBit_and,Bool.and_eq_true] at h1 ⊢
  exact ⟨JV h h1.1,h1.2⟩
theorem G5 (w:WG ts pts) (t:WT ts pts) (f:Flows ts pts){A:List Nat}(hA:GoodG ts pts A){i:Nat}(hi:i < pts.length) (v l:Nat) (h:(cD f.Af i)[v]!.testBit l = true):(cD (nD pts.length A) i)[v]!.testBit l = true:=by
 rw [pR A hA.1 _ i hi]
 by_cases hv : v < 6
 ·rw [dK f.gf.1 hi hv] at h
  exact (hA.2 v hv l).2 (O4 w t ((f.gf.2 i v hi hv l).1 h)).2
 ·rw [getElem!_neg _ v (by rw [dZ f.gf.1 hi]; exact hv)] at h;simp at h
theorem Kw (w:WG ts pts) (t:WT ts pts) (f:Flows ts pts){A:List Nat}(hA:GoodG ts pts A) (x:Iss) (hx:x ∈ f.iss):x ∈ iC ts pts f.Aa f.Am f.Al (nD pts.length A) f.Ap pts.length:=by
 unfold Flows.iss iC at hx
 unfold iC
 obtain ⟨i,hi,h⟩ := List.mem_flatMap.1 hx
 have hin := List.mem_range.1 hi
 refine List.mem_flatMap.2 ⟨i,hi,?_⟩
 unfold vZ at h ⊢
 rcases List.mem_append.1 h with h|h
 ·exact List.mem_append.2 (.inl h)
 ·obtain ⟨z, hz, rfl⟩ := List.mem_map.1 h
  obtain ⟨l,h1,h2,rfl⟩ := bR.1 hz
  exact List.mem_append.2 (.inr (List.mem_map.2 ⟨_,bR.2 ⟨l,h1,KK w f (G5 w t f hA hin) h2,rfl⟩,rfl⟩))
end
theorem LF (nt n:Nat) (A Ap:List Nat) (hA:A.length = 6) (hnt:nt ≤ 6){i:Nat}(hi:i < n):(eO nt n (nD n A) Ap i).1 = Bu nt n A:=by
 unfold eO Bu
 dsimp only
 refine List.map_congr_left fun v hv => List.map_congr_left fun l hl => ?_
 have hv := List.mem_range.1 hv
 rw [← dK (oF A hA n) hi (by omega : v < 6),pR A hA n i hi]
theorem J4 (nt n:Nat) (A:List Nat):(Bu nt n A).length = nt := by simp [Bu]
theorem KZ (nt n:Nat) (A:List Nat){v:Nat}(hv:v < nt):(Bu nt n A)[v]!.length = n:=by
 unfold Bu;rw [aX _ _ _ hv]; simp
end Go.AL
namespace Go.AL
open Go.RowKit
theorem Le.fset2 {ts:List (Nat × AV)}{hs hs':List (Nat × Option (List AV))}{n:Nat}{z0:Lo}{k j:Nat}{r:List Bool}{R:List (List Bool)}(hF:FamR R (R.set k r) hs hs') (hk:k < R.length) (hj:j < R.length) (hkj:k ≠ j) :
  Le ⟨ts,(j + aT,some (flat cB R[j]!)) :: (k + aT,some (flat cB r)) :: hs,n,z0⟩ ⟨ts,hs',n,z0⟩ := by
 refine Le.of (fun _ _ h => h) (fun i cs h => ?_) (Nat.le_refl _) rfl
 have h' : aQ hs' i = some cs := h
 show aQ ((j + aT,some (flat cB R[j]!)) :: (k + aT,some (flat cB r)) :: hs) i = some cs
 rcases Nat.lt_or_ge i aT with hi|hi
 ·rw [cM,if_neg (by omega),cM,if_neg (by omega),hF.low i hi]; exact h'
 ·obtain ⟨q, rfl⟩ : ∃ q, i = q + aT := ⟨i - aT, by omega⟩
  rw [hF.symm.fam] at h'
  split at h'
  ·rename_i hq
   rw [List.length_set] at hq
   rw [Bq] at h'
   rw [cM]
   by_cases e : q = j
   ·subst e
    rw [if_neg (fun q => hkj q.1)] at h'; rw [if_pos rfl]; exact h'
   ·rw [if_neg (by omega), cM]
    by_cases e2 : q = k
    ·subst e2;rw [if_pos ⟨rfl,hk⟩] at h'; rw [if_pos rfl]; exact h'
    ·rw [if_neg (fun z => e2 z.1.symm)] at h'
     rw [if_neg (by omega),hF.get hq]; exact h'
  ·cases h'
theorem O0 {j k:Nat}(h:k ≠ j):distinct [k + aT,j + aT] = true:=by
 have : Nat.beq (k + aT) (j + aT) = false := by
  cases h2 : Nat.beq (k + aT) (j + aT) with
  | false => rfl
  | true => have := Nat.eq_of_beq_eq_true h2;omega
 simp only [distinct,List.all_cons,List.all_nil,this]; rfl
section
variable {P : Program} {C : Ctx} {ι : Pl} {T : Nat → Option AV} {F : Nat → Prop} {H : Nat → Option (List AV)} {a : Act} {w : World} {o : Oper}
theorem AG {bad:Nat → Prop}{zs:List Value}(h:zs.all (·.oneCell') = true):∀ n,RdL w bad ι (List.replicate n (zs.map AV.v)).flatten (List.replicate n zs).flatten
 | 0 => by simp [RdL]
 | n + 1 => by
  rw [List.replicate_succ,List.replicate_succ,List.flatten_cons,List.flatten_cons]
  exact RdL.append (uR h) (AG h n)
theorem GJ (gh:HG C ι F H w){t el:TypeId}{x:Operand}{id off n e:Nat}{cs:List AV}{zs:List Value}
  (ho : o.op = .call ⟨.builtin .clear,#[x],#[t]⟩) (hx : Rd w (aJ C.X ι H) ι (.own id off n e) (a.eval x)) (hd : o.dst = none)
  (ht : nB P t = some el) (he : fR P el = some e) (hz : oJ P el = some zs) (hze : zs.length = e)
  (hH : H id = some cs) (h0 : 0 < n) (hl : off + n * e ≤ cs.length) :
  Ef P C ι F H a w o (.tup []) (eH H id (some (iB cs off (List.replicate n (zs.map AV.v)).flatten))) := by
 obtain ⟨i,z,h1,h2,h3,h4⟩ := qG hz
 have hu := k4 ht
 have hsz := y0 he h1
 simp only [Rd] at hx
 rcases hx with ⟨_,rfl,_⟩ | ⟨b,β,c,p1,p2,p3,p4⟩
 ·omega
 have hlen : ((List.replicate n (zs.map AV.v)).flatten).length = n * e := by
  rw [List.length_flatten]; simp [hze]
 obtain ⟨w',q1,q2,q3⟩ := Bl (P := P) gh hH p1 (off := off) (new := (List.replicate n (zs.map AV.v)).flatten) (by rw [hlen]; exact hl) (AG h4 n)
 have hr : (Builtin.clear_ #[t] o.type #[a.eval x]).run P w = .ok (.tuple #[]) w' := by
  rw [p2]
  cases n with
  | zero => omega
  | succ n =>
   have hzc : (Builtin.zeroCells z.cells (n + 1)).toList = (List.replicate (n + 1) zs).flatten := by rw [u9,h3]
   simp [Builtin.clear_,cF hu,zeroValue,typeInfo,h1,h2,hzc,q1]
 refine ⟨.value (.tuple #[]),.tuple #[],ι,w',?_,.inl ⟨rfl,?_⟩,q2,q3⟩
 ·simp [execOp,ho,resolve,invoke,builtin,hr]
 ·simp only [Rd]; exact ⟨[],rfl,by simp [RdV]⟩
end
section
variable {P : Program} {N : Nat} {Q : Exit → AS → Prop} {all : Array Oper} {rest : List Oper} {ts : List (Nat × AV)} {hs : List (Nat × Option (List AV))} {n : Nat} {z0 : Lo} {md : Md}
variable {d : Nat} {ty : TypeId} {pos : String} {af : Array Edge}
theorem GC {t el id off m e:Nat}{x:Operand}{cs cs':List AV}{zs:List Value}[ht:SlT P t el] [he:SzT P el e] [hz:ZrT P el zs]
  (hx : ev (lk ts) x = some (.own id off m e)) (hze : zs.length = e) (h0 : 0 < m) (hH : aQ hs id = some cs) (hl : off + m * e ≤ cs.length)
  (hcs : iB cs off (List.replicate m (zs.map AV.v)).flatten = cs') {md' : Md} [hmd : MdA md (rO x ++ [.inr id]) [.inr id] md'] (kk : RW P N all Q md' rest ⟨ts,(id,some cs') :: hs,n,z0⟩) :
  RW P N all Q md (⟨none,.call ⟨.builtin .clear,#[x],#[t]⟩,ty,pos,af,none⟩ :: rest) ⟨ts,hs,n,z0⟩ := by
 subst hcs
 exact DA (rs := rO x ++ [.inr id]) (ws := [(id, some (iB cs off (List.replicate m (zs.map AV.v)).flatten))]) (n' := n) (out := .tup []) rfl (fun _ h => by cases h) (Nat.le_refl n) (.inl rfl)
  (fun C ι F T H a w ag hF g gh => D7 (GJ gh rfl (cA g (ag.l.ev.trans hx)) rfl ht.pf he.pf hz.pf hze ((ag.r.h id (by simp)).trans hH) h0 hl)) (by
   show RW P N all Q (md.add (rO x ++ [.inr id]) [.inr id]) rest ⟨ts,(id,some (iB cs off (List.replicate m (zs.map AV.v)).flatten)) :: hs,n,z0⟩
   rw [hmd.pf]; exact kk)
end
end Go.AL
namespace Go.AL
section
variable {P : Program} {N : Nat} {Q : Exit → AS → Prop} {all : Array Oper} {rest : List Oper} {ts : List (Nat × AV)} {hs : List (Nat × Option (List AV))} {n : Nat} {z0 : Lo} {md : Md}
variable {d : Nat} {ty : TypeId} {pos : String} {af : Array Edge}
theorem wK (w:World) (t el:TypeId) (hu:P.underlying t = some (.slice el)) (a:Option Addr) (m c:Nat):(binOp .eql t (.slice a m c) (.slice none 0 0)).run P w = .ok (.bool a.isNone) w:=by
 have h0 : ∀ d : Nat, (Op.equalIn (d + 1) t (.slice a m c) (.slice none 0 0)).run P w = .ok a.isNone w := fun d => by
  cases a <;> simp [Op.equalIn,cF hu]
 have h := h0 9999
 simp only [binOp]
 simp [Op.equal,Op.maxDepth,h]
theorem BM {t t' el:TypeId}{x:Operand}{m:Nat}{cs:List AV}[ht:SlT P t el] (hx:ev (lk ts) x = some (.imm m cs)) (hN:Nat.blt d N = true)
  (kk : ∀ b : Bool,(b = true → m = 0) → RW P N all Q .txt rest ⟨(d,.v (.bool b)) :: ts,hs,n,z0⟩) : RW P N all Q .txt (⟨some d,.binOp .eql t x (.const (.slice none 0 0)) t',ty,pos,af,none⟩ :: rest) ⟨ts,hs,n,z0⟩ := by
 rintro C a w hCN ⟨h0,ι,g,gh⟩
 refine wpList_plain rfl (fun K hK => ?_)
 have h1 := cA g hx
 simp only [Rd] at h1
 obtain ⟨a',c,h2,h3⟩ := h1
 have hu := k4 ht.pf
 have hb : a'.isNone = true → m = 0 := fun hn => by
  rcases h3 with h3 | ⟨b,o,_,rfl,_⟩
  ·exact h3
  ·cases hn
 have hg : (eqGuard .eql t x (.const (.slice none 0 0)) (.slice a' m c) (.slice none 0 0)).run P w = .ok () w := by simp [eqGuard]
 have hr : (execOp a.eval ⟨some d, .binOp .eql t x (.const (.slice none 0 0)) t', ty, pos, af, none⟩).run P w = .ok (.value (.bool a'.isNone)) w := by
  have e2 : a.eval (.const (.slice none 0 0)) = .slice none 0 0 := rfl
  simp only [execOp,h2,e2,Sem.run_bind,hg,Result.andThen_ok,wK w t el hu,Sem.run_pure]
 simp only [Oper.wp,hr,Oper.upon]
 refine hK _ _ (kk a'.isNone hb C _ _ hCN ⟨h0,ι,?_,gh⟩)
 show TG C ι (lk ((d,AV.v (.bool a'.isNone)) :: ts)) _ _ _
 rw [iK]
 exact g.put (by have := dQ hN;omega) (by simp [Rd])
end
theorem D3 {α:Type}{f:α → List AV}{e:Nat}[h:FlT f e] {hs:List (Nat × Option (List AV))}{xs:List α}{i k n:Nat}(hH:aQ hs i = some (flat f xs)) (hn:n = xs.length - k):sCells (aQ hs) e (xE (.own i (0 + k * e) n e)) = some (n,flat f (xs.drop k)):=by
 show ((aQ hs i).bind fun cs => if n * e ≤ (cs.drop (0 + k * e)).length then some (n,(cs.drop (0 + k * e)).take (n * e)) else none) = _
 rw [hH,Option.bind_some,Nat.zero_add]
 have h1 : (flat f xs).length = xs.length * e := aI f xs
 have h3 : (flat f xs).drop (k * e) = flat f (xs.drop k) := by
  have h4 : flat f xs = flat f (xs.take k) ++ flat f (xs.drop k) := by rw [cX,List.take_append_drop]
  have h5 : (flat f (xs.take k)).length = (xs.take k).length * e := aI f _
  by_cases hk : k ≤ xs.length
  ·rw [h4,← show (flat f (xs.take k)).length = k * e from by rw [h5,List.length_take]; congr 1;omega,List.drop_left]
  ·rw [List.drop_of_length_le (by rw [h1]; exact Nat.mul_le_mul_right _ (by omega)),List.drop_of_length_le (by omega)]; rfl
 rw [h3]
 have h2 : (flat f (xs.drop k)).length = (xs.length - k) * e := by rw [aI f (e := e),List.length_drop]
 rw [h2,hn,if_pos (Nat.le_refl _),List.take_of_length_le (by rw [h2]; exact Nat.le_refl _)]
theorem qH {T:Nat → Option AV}{x:Operand}{dd:Nat}{k:IntKind}{m:Int}{h:Nat}(hx:ev T x = some (.v (.int k m))) (e:m = (h:Int)):kX T (some x) dd = some h:=by
 simp only [kX,hx]; rw [if_pos (by omega)]; congr 1;omega
structure Tg where
 id : Int
 uq : Bool
 deriving Inhabited,DecidableEq
structure Cl where
 val : Int
 alive : Bool
 next : Int
 stk : List Tg
 deriving Inhabited,DecidableEq
structure Pt where
 cell : Int
 tag : Int
 deriving Inhabited,DecidableEq
structure Sl where
 set : Bool
 num : Int
 ptr : Pt
 deriving Inhabited,DecidableEq
def cJ (t : Tg) : List AV := [iv t.id,bv t.uq]
def bJ (c : Cl) : List AV := [iv c.val,bv c.alive,iv c.next,sl cJ c.stk]
def dC (s : Sl) : List AV := [bv s.set,iv s.num,iv s.ptr.cell,iv s.ptr.tag]
instance : FlT cJ 2:=⟨fun _ => rfl⟩
instance : FlT bJ 4:=⟨fun _ => rfl⟩
instance : FlT dC 4:=⟨fun _ => rfl⟩
instance : FE cJ (fun t => [iv t.id,bv t.uq]):=⟨fun _ => rfl⟩
instance : FE bJ (fun c => [iv c.val,bv c.alive,iv c.next,sl cJ c.stk]):=⟨fun _ => rfl⟩
instance : FE dC (fun s => [bv s.set,iv s.num,iv s.ptr.cell,iv s.ptr.tag]):=⟨fun _ => rfl⟩
instance (t : Tg) : Pur (cJ t):=⟨rfl⟩
instance (c : Cl) : Pur (bJ c):=⟨by show (true && (true && (true && ((sl cJ c.stk).pur && true)))) = true;rw [a8]; rfl⟩
instance (s : Sl) : Pur (dC s):=⟨rfl⟩
abbrev P2 (t : Tg) : AV := .agg [iv t.id,bv t.uq]
abbrev P4 (c : Cl) : AV := .agg [iv c.val,bv c.alive,iv c.next,sl cJ c.stk]
abbrev mW (p : Pt) : AV := .agg [iv p.cell,iv p.tag]
abbrev HD (s : Sl) : AV := .agg [bv s.set,iv s.num,iv s.ptr.cell,iv s.ptr.tag]
structure OkC (c : Cl) : Prop where
 v : 0 ≤ c.val ∧ c.val ≤ 9
 n : 1 ≤ c.next ∧ c.next ≤ 1000
 l : 1 ≤ c.stk.length ∧ c.stk.length ≤ 200
 u : c.stk[0]!.uq = true
 i : ∀ t ∈ c.stk,0 ≤ t.id ∧ t.id < c.next
 d : (c.stk.map (·.id)).Nodup
structure OkM (m : List Cl) : Prop where
 l : m.length ≤ 200
 c : ∀ c ∈ m,OkC c
def bZ (stk : List Tg) (id : Int) : Int := match stk.findIdx? (fun t => decide (t.id = id)) with | some k => k | none => -1
theorem dW (stk:List Tg) (id:Int):-1 ≤ bZ stk id ∧ bZ stk id < stk.length:=by
 unfold bZ
 split
 ·rename_i k h
  obtain ⟨h1,_⟩ := List.findIdx?_eq_some_iff_getElem.1 h
  omega
 ·omega
theorem DV {stk:List Tg}{id:Int}(h:0 ≤ bZ stk id):stk[(bZ stk id).toNat]!.id = id:=by
 unfold bZ at h ⊢
 split
 ·rename_i k hk
  obtain ⟨h1,h2,_⟩ := List.findIdx?_eq_some_iff_getElem.1 hk
  rw [Int.toNat_natCast,a7 _ _ h1]
  simpa using h2
 ·rename_i hk;rw [hk] at h;dsimp only at h;omega
theorem mQ {stk:List Tg}{id:Int}:bZ stk id < 0 ↔ ∀ t ∈ stk,t.id ≠ id:=by
 unfold bZ
 split
 ·rename_i k hk
  obtain ⟨h1,h2,_⟩ := List.findIdx?_eq_some_iff_getElem.1 hk
  refine ⟨fun h => by omega,fun h => ?_⟩
  exact absurd (by simpa using h2) (h _ (List.getElem_mem h1))
 ·rename_i hk
  rw [List.findIdx?_eq_none_iff] at hk
  exact ⟨fun _ t ht => by simpa using hk t ht,fun _ => by omega⟩
def eV (stk : List Tg) (k : Nat) (wr : Bool) : List Tg := if wr = true then stk.take (k + 1) else stk.take (k + 1) ++ (stk.drop (k + 1)).filter (fun t => !t.uq)
def aY (m : List Cl) (x : Pt) (wr : Bool) : Int :=
 if ¬ (0 ≤ x.cell ∧ x.cell < m.length) then 4
 else if m[x.cell.toNat]!.alive = false then 1
 else if bZ m[x.cell.toNat]!.stk x.tag < 0 then 2
 else if wr = true ∧ m[x.cell.toNat]!.stk[(bZ m[x.cell.toNat]!.stk x.tag).toNat]!.uq = false then 3
 else 0
def hZ (c : Cl) (x : Pt) (wr : Bool) : Cl := { c with stk := eV c.stk (bZ c.stk x.tag).toNat wr }
def cP (m : List Cl) (x : Pt) (wr : Bool) : List Cl := if aY m x wr = 0 then m.set x.cell.toNat (hZ m[x.cell.toNat]! x wr) else m
def nL (m : List Cl) (x : Pt) : Int := if aY m x false = 0 then m[x.cell.toNat]!.val else 0
def o6 (m : List Cl) (x : Pt) (v : Int) : Int := if 0 ≤ v ∧ v ≤ 9 then aY m x true else 4
def nU (m : List Cl) (x : Pt) (v : Int) : List Cl := if o6 m x v = 0 then m.set x.cell.toNat { hZ m[x.cell.toNat]! x true with val := v } else m
def gO (m : List Cl) (x : Pt) : List Cl := if aY m x true = 0 then m.set x.cell.toNat { hZ m[x.cell.toNat]! x true with alive := false } else m
def Ck (c : Cl) : Prop := c.stk.length = 200 ∨ c.next = 1000
instance (c : Cl) : Decidable (Ck c) := by unfold Ck;infer_instance
def j7 (m : List Cl) (x : Pt) (u : Bool) : Int := if aY m x u = 0 then (if Ck (hZ m[x.cell.toNat]! x u) then 4 else 0) else aY m x u
def psh (c : Cl) (u : Bool) : Cl := { c with stk := c.stk ++ [⟨c.next,u⟩],next := c.next + 1 }
def jI (m : List Cl) (x : Pt) (u : Bool) : List Cl := if j7 m x u = 0 then m.set x.cell.toNat (psh (hZ m[x.cell.toNat]! x u) u) else m
def oH (m : List Cl) (x : Pt) (u : Bool) : Pt := if j7 m x u = 0 then ⟨x.cell,m[x.cell.toNat]!.next⟩ else ⟨0,0⟩
def nO (v : Int) : Cl := ⟨v,true,1,[⟨0,true⟩]⟩
theorem tchS_sub {stk:List Tg}{k:Nat}{wr:Bool}:(eV stk k wr).Sublist stk:=by
 unfold eV
 split
 ·exact List.take_sublist _ _
 ·have h := List.Sublist.append (List.Sublist.refl (stk.take (k + 1))) (List.filter_sublist (l := stk.drop (k + 1)) (p := fun t => !t.uq))
  rwa [List.take_append_drop] at h
theorem wB {stk:List Tg}{k:Nat}{wr:Bool}(h:0 < stk.length):(eV stk k wr)[0]! = stk[0]! ∧ 0 < (eV stk k wr).length:=by
 cases stk with
 | nil => simp at h
 | cons a l =>
  unfold eV
  split <;> simp
theorem OkC.tch {c:Cl}(h:OkC c) (x:Pt) (wr:Bool):OkC (hZ c x wr):=by
 have hs := tchS_sub (stk := c.stk) (k := (bZ c.stk x.tag).toNat) (wr := wr)
 have hh := wB (k := (bZ c.stk x.tag).toNat) (wr := wr) (stk := c.stk) (by have := h.l;omega)
 refine ⟨h.v,h.n,⟨hh.2,Nat.le_trans hs.length_le h.l.2⟩,?_,fun t ht => h.i t (hs.subset ht),(hs.map _).nodup h.d⟩
 show (eV c.stk (bZ c.stk x.tag).toNat wr)[0]!.uq = true
 rw [hh.1]; exact h.u
theorem OkC.psh {c:Cl}(h:OkC c) (u:Bool) (hf:¬ Ck c):OkC (psh c u):=by
 have hl := h.l
 have hn := h.n
 unfold Ck at hf
 refine ⟨h.v,by show 1 ≤ c.next + 1 ∧ c.next + 1 ≤ 1000;omega,by show 1 ≤ (c.stk ++ [_]).length ∧ (c.stk ++ [_]).length ≤ 200;rw [List.length_append,List.length_singleton]; omega,?_,fun t ht => ?_,?_⟩
 ·show (c.stk ++ [_])[0]!.uq = true
  have h1 := h.u
  rw [a7 _ _ (by omega)] at h1
  rw [a7 _ _ (by rw [List.length_append]; omega),List.getElem_append_left (by omega)]; exact h1
 ·rcases List.mem_append.1 ht with ht | ht
  ·have := h.i t ht;show 0 ≤ t.id ∧ t.id < c.next + 1;omega
  ·rw [List.mem_singleton] at ht;subst ht;show 0 ≤ c.next ∧ c.next < c.next + 1;omega
 ·show ((c.stk ++ [_]).map _).Nodup
  rw [List.map_append,List.nodup_append]
  refine ⟨h.d,by simp,fun a ha b hb => ?_⟩
  simp only [List.map_cons,List.map_nil,List.mem_singleton] at hb
  obtain ⟨t,ht,rfl⟩ := List.mem_map.1 ha
  have := h.i t ht
  omega
theorem OkC.nw {v:Int}(h:0 ≤ v ∧ v ≤ 9):OkC (nO v) := ⟨h,⟨by show (1:Int) ≤ 1;decide,by show (1:Int) ≤ 1000;decide⟩,⟨by show 1 ≤ 1;decide,by show 1 ≤ 200;decide⟩,rfl,by simp [nO],by simp [nO]⟩
theorem OkM.set {m:List Cl}(h:OkM m){k:Nat}{c:Cl}(hc:OkC c):OkM (m.set k c) :=
 ⟨by rw [List.length_set]; exact h.l,fun x hx => (List.mem_or_eq_of_mem_set hx).elim (h.c x) (fun e => e ▸ hc)⟩
theorem OkM.at {m:List Cl}(h:OkM m){k:Nat}(hk:k < m.length):OkC m[k]! := h.c _ (aR _ _ hk)
theorem dP {m:List Cl}{x:Pt}{wr:Bool}(h:aY m x wr ≠ 4):0 ≤ x.cell ∧ x.cell < m.length ∧ x.cell.toNat < m.length:=by
 unfold aY at h
 split at h
 ·exact absurd rfl h
 ·omega
theorem dM {m:List Cl}{x:Pt}{wr:Bool}(h:aY m x wr = 0):0 ≤ x.cell ∧ x.cell < m.length ∧ x.cell.toNat < m.length := dP (by rw [h]; decide)
theorem OkM.tch {m:List Cl}(h:OkM m) (x:Pt) (wr:Bool):OkM (cP m x wr):=by
 unfold cP;split
 ·rename_i hk;exact h.set ((h.at (dM hk).2.2).tch x wr)
 ·exact h
theorem OkM.wr {m:List Cl}(h:OkM m) (x:Pt) (v:Int):OkM (nU m x v):=by
 unfold nU
 by_cases hk : o6 m x v = 0
 ·rw [if_pos hk]
  unfold o6 at hk
  by_cases hv : 0 ≤ v ∧ v ≤ 9
  ·rw [if_pos hv] at hk
   have h1 := (h.at (dM hk).2.2).tch x true
   exact h.set ⟨hv,h1.n,h1.l,h1.u,h1.i,h1.d⟩
  ·rw [if_neg hv] at hk;cases hk
 ·rw [if_neg hk]; exact h
theorem OkM.fr {m:List Cl}(h:OkM m) (x:Pt):OkM (gO m x):=by
 unfold gO;split
 ·rename_i hk
  have h1 := (h.at (dM hk).2.2).tch x true
  exact h.set ⟨h1.v,h1.n,h1.l,h1.u,h1.i,h1.d⟩
 ·exact h
theorem OkM.ln {m:List Cl}(h:OkM m) (x:Pt) (u:Bool):OkM (jI m x u):=by
 unfold jI
 by_cases hk : j7 m x u = 0
 ·rw [if_pos hk]
  unfold j7 at hk
  by_cases h0 : aY m x u = 0
  ·rw [if_pos h0] at hk
   by_cases hf : Ck (hZ m[x.cell.toNat]! x u)
   ·rw [if_pos hf] at hk;cases hk
   ·exact h.set (((h.at (dM h0).2.2).tch x u).psh u hf)
  ·rw [if_neg h0] at hk;exact absurd hk h0
 ·rw [if_neg hk]; exact h
theorem OkM.nw {m:List Cl}(h:OkM m){v:Int}(hv:0 ≤ v ∧ v ≤ 9) (hl:m.length < 200):OkM (m ++ [nO v]) :=
 ⟨by rw [List.length_append,List.length_singleton]; omega,fun c hc => (List.mem_append.1 hc).elim (h.c c) (fun h => by rw [List.mem_singleton.1 h]; exact OkC.nw hv)⟩
def gM (pts : List Pnt) (a : Nat) (cs : List Int) : Nat × List Int :=
 if pts[a]!.next.length = 2 then
  match cs with
  | [] => ((pts[a]!.next[1]!).toNat,[])
  | c :: cs => ((pts[a]!.next[(c % 2).toNat]!).toNat,cs)
 else ((pts[a]!.next[0]!).toNat,cs)
def dJ (pts : List Pnt) : Nat → Nat → List Int → List Nat × Bool
 | 0,a,_ => if pts[a]!.op = 11 then ([a],true) else ([],false)
 | n + 1,a,cs => if pts[a]!.op = 11 then ([a],true) else (a :: (dJ pts n (gM pts a cs).1 (gM pts a cs).2).1,(dJ pts n (gM pts a cs).1 (gM pts a cs).2).2)
structure Mc where
 slots : List Sl
 cells : List Cl
 read : List Int
 deriving Inhabited
def fZ : Sl := ⟨false,0,⟨0,0⟩⟩
def dY (k : Int) : Int := if k = 1 then 3 else 4
def jX (k : Int) : Int := if k = 0 then -1 else dY k
def bH (ts : List Int) (s : Mc) (v : Nat) (x : Sl) : Mc × Int :=
 if ts[v]! = 2 ∧ s.slots[v]!.set = true then (⟨s.slots.set v x,gO s.cells s.slots[v]!.ptr,s.read⟩,jX (aY s.cells s.slots[v]!.ptr true))
 else (⟨s.slots.set v x,s.cells,s.read⟩,-1)
def b7 (ts : List Int) (s : Mc) (x : Pnt) : Bool := (List.range ts.length).any fun v => decide (aO ts x v ≠ 0) && !s.slots[v]!.set
def cO (ts : List Int) : Nat → Nat → Mc → Mc × Int
 | 0,_,s => (s,0)
 | n + 1, v, s => if ts[v]! = 2 ∧ s.slots[v]!.set = true then
   (if aY s.cells s.slots[v]!.ptr true = 0 then cO ts n (v + 1) ⟨s.slots.set v fZ,gO s.cells s.slots[v]!.ptr,s.read⟩ else (⟨s.slots,gO s.cells s.slots[v]!.ptr,s.read⟩,dY (aY s.cells s.slots[v]!.ptr true)))
  else cO ts n (v + 1) s
def bO (ts : List Int) (s : Mc) (x : Pnt) : Mc × Int :=
 if x.op = 1 then bH ts s x.x.toNat ⟨true,x.n,⟨0,0⟩⟩
 else if x.op = 2 then (if s.cells.length = 200 then (s,1) else bH ts ⟨s.slots,s.cells ++ [nO x.n],s.read⟩ x.x.toNat ⟨true,0,⟨s.cells.length,0⟩⟩)
 else if x.op = 3 then bH ts (if vM ts[x.y.toNat]! = true then ⟨s.slots.set x.y.toNat fZ,s.cells,s.read⟩ else s) x.x.toNat s.slots[x.y.toNat]!
 else if x.op = 4 ∨ x.op = 5 then
  (if j7 s.cells s.slots[x.y.toNat]!.ptr (decide (x.op = 5)) = 0 then bH ts ⟨s.slots, jI s.cells s.slots[x.y.toNat]!.ptr (decide (x.op = 5)), s.read⟩ x.x.toNat ⟨true, 0, oH s.cells s.slots[x.y.toNat]!.ptr (decide (x.op = 5))⟩
   else (s,dY (j7 s.cells s.slots[x.y.toNat]!.ptr (decide (x.op = 5)))))
 else if x.op = 6 then
  (if aY s.cells s.slots[x.y.toNat]!.ptr false = 0 then bH ts ⟨s.slots, cP s.cells s.slots[x.y.toNat]!.ptr false, s.read ++ [nL s.cells s.slots[x.y.toNat]!.ptr]⟩ x.x.toNat ⟨true, nL s.cells s.slots[x.y.toNat]!.ptr, ⟨0, 0⟩⟩
   else (s,dY (aY s.cells s.slots[x.y.toNat]!.ptr false)))
 else if x.op = 7 then (⟨s.slots,nU s.cells s.slots[x.x.toNat]!.ptr s.slots[x.y.toNat]!.num,s.read⟩,jX (o6 s.cells s.slots[x.x.toNat]!.ptr s.slots[x.y.toNat]!.num))
 else if x.op = 8 then (⟨s.slots.set x.x.toNat fZ,gO s.cells s.slots[x.x.toNat]!.ptr,s.read⟩,jX (aY s.cells s.slots[x.x.toNat]!.ptr true))
 else if x.op = 11 then cO ts ts.length 0 s
 else (s,-1)
def gL (ts : List Int) (pts : List Pnt) : List Nat → Mc → Nat → Mc × Int × Nat
 | [],s,last => (s,1,last)
 | a :: l, s, _ => if b7 ts s pts[a]! = true then (s, 2, a)
  else if (bO ts s pts[a]!).2 = -1 then gL ts pts l (bO ts s pts[a]!).1 a
  else ((bO ts s pts[a]!).1,(bO ts s pts[a]!).2,a)
def mc0 (nt : Nat) : Mc := ⟨List.replicate nt fZ,[],[]⟩
def dL (ts : List Int) (pts : List Pnt) (cs : List Int) (most : Nat) : Mc × Int × Nat := gL ts pts (dJ pts most 0 cs).1 (mc0 ts.length) 0
structure OkS (nt : Nat) (s : Mc) : Prop where
 m : OkM s.cells
 l : s.slots.length = nt
theorem OkS.put {ts:List Int}{nt:Nat}{s:Mc}(h:OkS nt s) (v:Nat) (x:Sl):OkS nt (bH ts s v x).1:=by
 unfold bH;split
 ·exact ⟨h.m.fr _,by show (s.slots.set v x).length = nt;rw [List.length_set]; exact h.l⟩
 ·exact ⟨h.m,by show (s.slots.set v x).length = nt;rw [List.length_set]; exact h.l⟩
theorem OkS.fin {ts:List Int}{nt:Nat}:∀ n v (s:Mc),OkS nt s → OkS nt (cO ts n v s).1
 | 0,_,_,h => h
 | n + 1, v, s, h => by
  unfold cO;split
  ·split
   ·exact OkS.fin n _ _ ⟨h.m.fr _,by show (s.slots.set v fZ).length = nt;rw [List.length_set]; exact h.l⟩
   ·exact ⟨h.m.fr _,h.l⟩
  ·exact OkS.fin n _ _ h
structure PtN (x : Pnt) : Prop where
 n : x.op = 2 → 0 ≤ x.n ∧ x.n ≤ 9
theorem OkS.do {ts:List Int}{nt:Nat}{s:Mc}(h:OkS nt s){x:Pnt}(hx:PtN x):OkS nt (bO ts s x).1:=by
 have hl : ∀ (v : Nat) (y : Sl),(s.slots.set v y).length = nt := fun v y => by rw [List.length_set]; exact h.l
 unfold bO
 split
 ·exact h.put _ _
 split
 ·rename_i h2
  split
  ·exact h
  ·rename_i h3
   refine OkS.put ?_ _ _
   exact ⟨h.m.nw (hx.n h2) (by have := h.m.l;omega),h.l⟩
 split
 ·split
  ·refine OkS.put ?_ _ _
   exact ⟨h.m,hl _ _⟩
  ·exact h.put _ _
 split
 ·split
  ·refine OkS.put ?_ _ _
   exact ⟨h.m.ln _ _,h.l⟩
  ·exact h
 split
 ·split
  ·refine OkS.put ?_ _ _
   exact ⟨h.m.tch _ _,h.l⟩
  ·exact h
 split
 ·exact ⟨h.m.wr _ _,h.l⟩
 split
 ·exact ⟨h.m.fr _,hl _ _⟩
 split
 ·exact OkS.fin _ _ _ h
 ·exact h
theorem OkS.mc0 (nt:Nat):OkS nt (mc0 nt) := ⟨⟨by simp [Go.AL.mc0],by simp [Go.AL.mc0]⟩,by simp [Go.AL.mc0]⟩
theorem OkS.run {ts:List Int}{pts:List Pnt}{nt:Nat}(hp:∀ a:Nat,PtN pts[a]!):∀ (l:List Nat) (s:Mc) (last:Nat),OkS nt s → OkS nt (gL ts pts l s last).1
 | [],_,_,h => h
 | a :: l, s, _, h => by
  unfold gL;split
  ·exact h
  ·split
   ·exact OkS.run hp l _ _ (h.do (hp a))
   ·exact h.do (hp a)
theorem IM (k:Int):jX k = -1 ∨ jX k = 3 ∨ jX k = 4 := by unfold jX dY;split;exact .inl rfl;split;exact .inr (.inl rfl);exact .inr (.inr rfl)
theorem oT (k:Int):dY k = 3 ∨ dY k = 4 := by unfold dY;split;exact .inl rfl;exact .inr rfl
theorem Jz (ts:List Int) (s:Mc) (v:Nat) (x:Sl):(bH ts s v x).2 = -1 ∨ (bH ts s v x).2 = 3 ∨ (bH ts s v x).2 = 4:=by
 unfold bH;split
 ·exact IM _
 ·exact .inl rfl
theorem Hg {ts:List Int}{s:Mc}{x:Pnt}(h:x.op ≠ 11):(bO ts s x).2 = -1 ∨ (bO ts s x).2 = 1 ∨ (bO ts s x).2 = 3 ∨ (bO ts s x).2 = 4:=by
 have p := fun s v y => Jz ts s v y
 have p' : ∀ s v y, (bH ts s v y).2 = -1 ∨ (bH ts s v y).2 = 1 ∨ (bH ts s v y).2 = 3 ∨ (bH ts s v y).2 = 4 := fun s v y => by
  rcases p s v y with h|h|h
  ·exact .inl h
  ·exact .inr (.inr (.inl h))
  ·exact .inr (.inr (.inr h))
 have g : ∀ k, jX k = -1 ∨ jX k = 1 ∨ jX k = 3 ∨ jX k = 4 := fun k => by
  rcases IM k with h|h|h
  ·exact .inl h
  ·exact .inr (.inr (.inl h))
  ·exact .inr (.inr (.inr h))
 have e : ∀ k,dY k = -1 ∨ dY k = 1 ∨ dY k = 3 ∨ dY k = 4 := fun k => .inr (.inr (oT k))
 unfold bO
 rw [if_neg h]
 split
 ·exact p' _ _ _
 split
 ·split
  ·exact .inr (.inl rfl)
  ·exact p' _ _ _
 split
 ·exact p' _ _ _
 split
 ·split
  ·exact p' _ _ _
  ·exact e _
 split
 ·split
  ·exact p' _ _ _
  ·exact e _
 split
 ·exact g _
 split
 ·exact g _
 exact .inl rfl
theorem mZ (ts:List Int):∀ n v (s:Mc),(cO ts n v s).2 = 0 ∨ (cO ts n v s).2 = 3 ∨ (cO ts n v s).2 = 4
 | 0,_,_ => .inl rfl
 | n + 1, v, s => by
  unfold cO;split
  ·split
   ·exact mZ ts n _ _
   ·exact .inr (oT _)
  ·exact mZ ts n _ _
theorem tN {ts:List Int}{s:Mc}{x:Pnt}(h:x.op = 11):bO ts s x = cO ts ts.length 0 s:=by
 unfold bO;simp [h]
theorem KP (m:List Cl) (x:Pt):(gO m x).length = m.length := by unfold gO;split <;> simp
theorem lW (m:List Cl) (x:Pt) (b:Bool):(cP m x b).length = m.length := by unfold cP;split <;> simp
theorem DY (m:List Cl) (x:Pt) (b:Bool):(jI m x b).length = m.length := by unfold jI;split <;> simp
theorem Ko (m:List Cl) (x:Pt) (v:Int):(nU m x v).length = m.length := by unfold nU;split <;> simp
structure PtA (ts : List Int) (x : Pnt) : Prop where
 n : x.op = 1 ∨ x.op = 2 → 0 ≤ x.n ∧ x.n ≤ 9
 t1 : x.op = 1 → ts[x.x.toNat]! = 1
 t2 : x.op = 2 ∨ x.op = 8 → ts[x.x.toNat]! = 2
 t3 : x.op = 3 → ts[x.x.toNat]! = ts[x.y.toNat]! ∧ x.x ≠ x.y
 t4 : x.op = 4 → ts[x.x.toNat]! = 3 ∧ x.x ≠ x.y ∧ 2 ≤ ts[x.y.toNat]!
 t5 : x.op = 5 → ts[x.x.toNat]! = 4 ∧ x.x ≠ x.y ∧ (ts[x.y.toNat]! = 2 ∨ ts[x.y.toNat]! = 4)
 t6 : x.op = 6 → ts[x.x.toNat]! = 1 ∧ 2 ≤ ts[x.y.toNat]!
 t7 : x.op = 7 → (ts[x.x.toNat]! = 2 ∨ ts[x.x.toNat]! = 4) ∧ ts[x.y.toNat]! = 1
theorem PtA.no {ts:List Int}{x:Pnt}(h:9 ≤ x.op):PtA ts x := ⟨fun e => by omega,fun e => by omega,fun e => by omega,fun e => by omega,fun e => by omega,fun e => by omega,fun e => by omega,fun e => by omega⟩
theorem CC {ts:List Int}{s:Stmt}(h:dN ts s = true):s.op ≤ 8:=by
 unfold dN at h
 dsimp only at h
 apply Classical.byContradiction
 intro e
 rw [if_neg (by omega),if_neg (by omega)] at h
 split at h
 ·cases h
 ·rw [if_neg (by omega),if_neg (by omega),if_neg (by omega),if_neg (by omega),if_neg (by omega),if_neg (by omega)] at h;cases h
theorem GU {ts:List Int}(s:Stmt) (h:dN ts s = true):PtA ts ⟨s.op,s.x,s.y,s.n,[]⟩:=by
 have g : ∀ v,0 < fG ts v → fG ts v = ts[v.toNat]! := fun v => jG
 have gx := g s.x
 have gy := g s.y
 unfold dN at h
 dsimp only at h
 constructor <;> dsimp only <;> intro e
 case n => rcases e with e|e <;> simp [e] at h <;> omega
 case t1 => simp [e] at h;rw [← gx (by omega)]; omega
 case t2 => rcases e with e|e <;> simp [e] at h <;> (rw [← gx (by omega)]; omega)
 case t3 => simp [e] at h;rw [← gx (by omega),← gy (by omega)]; exact ⟨h.2.1,h.2.2.2⟩
 case t4 => simp [e] at h;rw [← gx (by omega),← gy (by omega)]; exact ⟨h.2.1,h.2.2.2,h.2.2.1⟩
 case t5 => simp [e] at h;rw [← gx (by omega),← gy (by omega)]; exact ⟨h.2.1,h.2.2.2,h.2.2.1⟩
 case t6 => simp [e] at h;rw [← gx (by omega),← gy (by omega)]; exact ⟨h.2.1,h.2.2⟩
 case t7 => simp [e] at h;rw [← gx (by omega),← gy (by omega)]; exact ⟨h.2.1,h.2.2⟩
mutual
theorem OS {ts:List Int}:∀ (s:Stmt) (d b:Nat),qP ts d s = true → ∀ x ∈ vP b s,PtA ts x ∧ x.op ≠ 11 ∧ 0 < x.next.length
 | .mk op x y n th el, d, b, h => by
  simp only [qP] at h
  split at h
  ·rename_i hop
   simp only [Bool.and_eq_true] at h
   have hs := GU _ h.2
   have ho := CC h.2
   simp only [Stmt.op,Stmt.x,Stmt.y,Stmt.n] at hs ho
   simp only [vP,hop.1,hop.2,if_false,List.mem_singleton]
   rintro z rfl
   exact ⟨⟨hs.n,hs.t1,hs.t2,hs.t3,hs.t4,hs.t5,hs.t6,hs.t7⟩,by dsimp only;omega,by simp⟩
  ·rename_i hop
   cases d with
   | zero => cases h
   | succ d =>
    simp only [Bool.and_eq_true,decide_eq_true_eq] at h
    obtain ⟨⟨⟨_,_⟩,h1⟩,h2⟩ := h
    by_cases h9 : op = 9
    ·subst h9
     simp only [vP,if_true,List.mem_append,List.mem_singleton]
     rintro z (((rfl|hz)|rfl)|hz)
     ·exact ⟨PtA.no (by simp),by simp,by simp⟩
     ·exact uV th d (b + 1) h1 z hz
     ·exact ⟨PtA.no (by simp),by simp,by simp⟩
     ·exact uV el d (b + 2 + dA th) h2 z hz
    ·have h10 : op = 10 := by omega
     subst h10
     simp only [vP,if_true,show ((10 : Int) = 9) = False by simp,if_false,List.mem_append,List.mem_singleton]
     rintro z ((rfl|hz)|rfl)
     ·exact ⟨PtA.no (by simp),by simp,by simp⟩
     ·exact uV th d (b + 1) h1 z hz
     ·exact ⟨PtA.no (by simp),by simp,by simp⟩
theorem uV {ts:List Int}:∀ (l:List Stmt) (d b:Nat),okL ts d l = true → ∀ x ∈ fV b l,PtA ts x ∧ x.op ≠ 11 ∧ 0 < x.next.length
 | [],d,b,h => by simp [fV]
 | s :: l, d, b, h => by
  simp only [okL,Bool.and_eq_true] at h
  simp only [fV,List.mem_append]
  rintro x (hx|hx)
  ·exact OS s d b h.1 x hx
  ·exact uV l d (b + oA s) h.2 x hx
end
structure WA (ts : List Int) (pts : List Pnt) : Prop where
 a : ∀ i,i < pts.length → PtA ts pts[i]!
 e : ∀ i,i < pts.length → (pts[i]!.op = 11 ↔ i + 1 = pts.length)
 n : ∀ i,i < pts.length → pts[i]!.op ≠ 11 → 0 < pts[i]!.next.length
theorem WA.of_valid {p:Prg}(h:bD p = true):WA p.types (aB p):=by
 unfold bD at h
 simp only [Bool.and_eq_true,decide_eq_true_eq] at h
 obtain ⟨⟨_,hl⟩,_⟩ := h
 have hlen := lG p
 have hpl := bX p.body 0
 have lo : ∀ i, i + 1 < (aB p).length → (aB p)[i]! ∈ fV 0 p.body := fun i hi => by
  have h1 : i < (fV 0 p.body).length := by omega
  unfold aB
  rw [a7 _ _ (by rw [List.length_append]; omega),List.getElem_append_left h1]
  exact List.getElem_mem h1
 have hi : ∀ i, i + 1 = (aB p).length → (aB p)[i]! = ⟨11, 0, 0, 0, []⟩ := fun i hi => by
  have h1 : i = (fV 0 p.body).length := by omega
  unfold aB
  rw [a7 _ _ (by rw [List.length_append,List.length_singleton]; omega)]
  simp [h1]
 refine ⟨fun i h => ?_,fun i h => ⟨fun e => ?_,fun e => by rw [hi i e]⟩,fun i h ne => ?_⟩
 ·by_cases q : i + 1 < (aB p).length
  ·exact (uV p.body 4 0 hl _ (lo i q)).1
  ·rw [hi i (by omega)]; exact PtA.no (by simp)
 ·by_cases q : i + 1 < (aB p).length
  ·exact absurd e (uV p.body 4 0 hl _ (lo i q)).2.1
  ·omega
 ·by_cases q : i + 1 < (aB p).length
  ·exact (uV p.body 4 0 hl _ (lo i q)).2.2
  ·exact absurd (by rw [hi i (by omega)]) ne
theorem jT {xs:List Sl}{X:Int}(y:Sl){v:Nat}(hX:0 ≤ X ∧ X < xs.length) (hv:v < xs.length):(xs.set X.toNat y)[v]! = if X = (v:Int) then y else xs[v]!:=by
 rw [aP]
 by_cases h : X = (v : Int)
 ·rw [if_pos h,if_pos ⟨by omega,hv⟩]
 ·rw [if_neg h,if_neg (by omega)]
theorem eE (ts:List Int) (s:Mc) (v:Nat) (x:Sl):(bH ts s v x).1.slots = s.slots.set v x:=by
 unfold bH;split <;> rfl
theorem gX {ts:List Int}{s:Mc}{x:Pnt}(h:b7 ts s x = false){v:Nat}(hv:v < ts.length) (hu:aO ts x v ≠ 0):s.slots[v]!.set = true:=by
 unfold b7 at h
 rw [List.any_eq_false] at h
 have h1 := h v (List.mem_range.2 hv)
 rw [decide_eq_true hu,Bool.true_and] at h1
 simpa using h1
theorem uW {t:Int}:vM t = true ↔ t = 2 ∨ t = 4 := by unfold vM;simp
theorem Ic {ts:List Int}{s:Mc}{x:Pnt}(hl:s.slots.length = ts.length) (hu:b7 ts s x = false) (A:PtA ts x) (hop:1 ≤ x.op ∧ x.op ≠ 11) (hx:x.op ≤ 8 → 0 ≤ x.x ∧ x.x < ts.length) (hy:3 ≤ x.op → x.op ≤ 7 → 0 ≤ x.y ∧ x.y < ts.length) (hgo:(bO ts s x).2 = -1) :
  ∃ y : Sl,y.set = true ∧ ∀ v,v < ts.length → (bO ts s x).1.slots[v]! = if aL x = (v : Int) then y else if aO ts x v = 2 then fZ else s.slots[v]! := by
 have hk : ∀ k,dY k ≠ -1 := fun k => by rcases oT k with h|h <;> rw [h] <;> decide
 unfold bO at hgo ⊢
 by_cases h1 : x.op = 1
 ·rw [if_pos h1]
  have hxb := hx (by omega)
  refine ⟨⟨true,x.n,⟨0,0⟩⟩,rfl,fun v hv => ?_⟩
  rw [eE,jT _ (by omega) (by omega)]
  have e1 : aL x = x.x := by unfold aL;rw [if_pos (by omega)]
  have e2 : aO ts x v = 0 := by unfold aO;rw [if_neg (by omega),if_neg (by omega),if_neg (by omega),if_neg (by omega)]
  rw [e1,e2]; simp
 rw [if_neg h1] at hgo ⊢
 by_cases h2 : x.op = 2
 ·rw [if_pos h2] at hgo ⊢
  have hxb := hx (by omega)
  by_cases h200 : s.cells.length = 200
  ·rw [if_pos h200] at hgo;cases hgo
  ·rw [if_neg h200]
   refine ⟨⟨true,0,⟨s.cells.length,0⟩⟩,rfl,fun v hv => ?_⟩
   rw [eE]
   dsimp only
   rw [jT _ (by omega) (by omega)]
   have e1 : aL x = x.x := by unfold aL;rw [if_pos (by omega)]
   have e2 : aO ts x v = 0 := by unfold aO;rw [if_neg (by omega),if_neg (by omega),if_neg (by omega),if_neg (by omega)]
   rw [e1,e2]; simp
 rw [if_neg h2] at hgo ⊢
 by_cases h3 : x.op = 3
 ·rw [if_pos h3]
  have hxb := hx (by omega)
  have hyb := hy (by omega) (by omega)
  have hne := (A.t3 h3).2
  have e1 : aL x = x.x := by unfold aL;rw [if_pos (by omega)]
  have hyn : ((x.y.toNat : Nat) : Int) = x.y := by omega
  have hys : s.slots[x.y.toNat]!.set = true := gX hu (v := x.y.toNat) (by omega) (by
   unfold aO;rw [if_pos h3,if_pos hyn]; split <;> decide)
  refine ⟨s.slots[x.y.toNat]!,hys,fun v hv => ?_⟩
  rw [eE]
  have e2 : aO ts x v = if (v : Int) = x.y then (if ts[x.y.toNat]! = 2 ∨ ts[x.y.toNat]! = 4 then 2 else 1) else 0 := by
   unfold aO;rw [if_pos h3]
   by_cases q : (v : Int) = x.y
   ·rw [if_pos q,if_pos q,q]
   ·rw [if_neg q,if_neg q]
  rw [e1,e2]
  by_cases ht : vM ts[x.y.toNat]! = true
  ·rw [if_pos ht]
   dsimp only
   rw [jT _ (by rw [List.length_set]; omega) (by rw [List.length_set]; omega),jT _ (by omega) (by omega),if_pos (uW.1 ht)]
   by_cases q : x.x = (v : Int)
   ·rw [if_pos q,if_pos q]
   ·rw [if_neg q, if_neg q]
    by_cases q2 : x.y = (v : Int)
    ·rw [if_pos q2,if_pos q2.symm,if_pos rfl]
    ·have q3 : ¬ ((v : Int) = x.y) := fun h => q2 h.symm
     rw [if_neg q2,if_neg q3,if_neg (by decide : ¬ (0 : Int) = 2)]
  ·rw [if_neg ht, jT _ (by omega) (by omega), if_neg (fun h => ht (uW.2 h))]
   by_cases q : x.x = (v : Int)
   ·rw [if_pos q,if_pos q]
   ·rw [if_neg q, if_neg q]
    by_cases q2 : (v : Int) = x.y
    ·rw [if_pos q2,if_neg (by decide)]
    ·rw [if_neg q2,if_neg (by decide)]
 rw [if_neg h3] at hgo ⊢
 by_cases h4 : x.op = 4 ∨ x.op = 5
 ·rw [if_pos h4] at hgo ⊢
  have hxb := hx (by omega)
  split at hgo
  ·rename_i hz
   rw [if_pos hz]
   refine ⟨⟨true,0,oH s.cells s.slots[x.y.toNat]!.ptr (decide (x.op = 5))⟩,rfl,fun v hv => ?_⟩
   rw [eE]
   dsimp only
   rw [jT _ (by omega) (by omega)]
   have e1 : aL x = x.x := by unfold aL;rw [if_pos (by omega)]
   have e2 : aO ts x v ≠ 2 := by unfold aO;rw [if_neg (by omega),if_pos (by omega)]; split <;> decide
   rw [e1,if_neg e2]
  ·exact absurd hgo (hk _)
 rw [if_neg h4] at hgo ⊢
 by_cases h6 : x.op = 6
 ·rw [if_pos h6] at hgo ⊢
  have hxb := hx (by omega)
  split at hgo
  ·rename_i hz
   rw [if_pos hz]
   refine ⟨⟨true,nL s.cells s.slots[x.y.toNat]!.ptr,⟨0,0⟩⟩,rfl,fun v hv => ?_⟩
   rw [eE]
   dsimp only
   rw [jT _ (by omega) (by omega)]
   have e1 : aL x = x.x := by unfold aL;rw [if_pos (by omega)]
   have e2 : aO ts x v ≠ 2 := by unfold aO;rw [if_neg (by omega),if_pos (by omega)]; split <;> decide
   rw [e1,if_neg e2]
  ·exact absurd hgo (hk _)
 rw [if_neg h6] at hgo ⊢
 have e1 : aL x = -1 := by unfold aL;rw [if_neg (by omega)]
 have e3 : ∀ v : Nat,aL x ≠ (v : Int) := fun v => by rw [e1]; omega
 by_cases h7 : x.op = 7
 ·rw [if_pos h7]
  refine ⟨⟨true,0,⟨0,0⟩⟩,rfl,fun v hv => ?_⟩
  have e2 : aO ts x v ≠ 2 := by unfold aO;rw [if_neg (by omega),if_neg (by omega),if_pos h7]; split;decide;split <;> decide
  rw [if_neg (e3 v),if_neg e2]
 rw [if_neg h7]
 by_cases h8 : x.op = 8
 ·rw [if_pos h8]
  have hxb := hx (by omega)
  refine ⟨⟨true,0,⟨0,0⟩⟩,rfl,fun v hv => ?_⟩
  dsimp only
  rw [if_neg (e3 v),jT _ (by omega) (by omega)]
  have e2 : aO ts x v = if (v : Int) = x.x then 2 else 0 := by unfold aO;rw [if_neg (by omega),if_neg (by omega),if_neg (by omega),if_pos h8]
  rw [e2]
  by_cases q : x.x = (v : Int)
  ·rw [if_pos q,if_pos q.symm,if_pos rfl]
  ·have q3 : ¬ ((v : Int) = x.x) := fun h => q h.symm
   rw [if_neg q,if_neg q3,if_neg (by decide : ¬ (0 : Int) = 2)]
 ·rw [if_neg h8, if_neg hop.2]
  refine ⟨⟨true,0,⟨0,0⟩⟩,rfl,fun v hv => ?_⟩
  have e2 : aO ts x v ≠ 2 := by unfold aO;rw [if_neg (by omega),if_neg (by omega),if_neg (by omega),if_neg (by omega)]; decide
  rw [if_neg (e3 v),if_neg e2]
section
variable {ts : List Int} {pts : List Pnt}
theorem WG.doS (w:WG ts pts) (A:WA ts pts){a:Nat}(ha:a < pts.length){s:Mc}(hl:s.slots.length = ts.length) (hu:b7 ts s pts[a]! = false) (h11:pts[a]!.op ≠ 11) (hgo:(bO ts s pts[a]!).2 = -1) :
  ∃ y : Sl,y.set = true ∧ ∀ v,v < ts.length → (bO ts s pts[a]!).1.slots[v]! = if aL pts[a]! = (v : Int) then y else if aO ts pts[a]! v = 2 then fZ else s.slots[v]! :=
 Ic hl hu (A.a a ha) ⟨(w.op a ha).1,h11⟩ (fun h => ⟨(w.x a ha).1,(w.x a ha).2 h⟩) (fun h1 h2 => ⟨(w.y a ha).1,(w.y a ha).2 h1 h2⟩) hgo
theorem tC (w:WG ts pts) (A:WA ts pts){a:Nat}(ha:a < pts.length) (h11:pts[a]!.op ≠ 11) (cs:List Int):cR pts a (gM pts a cs).1:=by
 have key : ∀ j : Nat, j < pts[a]!.next.length → cR pts a (pts[a]!.next[j]!).toNat := fun j hj => by
  have hm := aR pts[a]!.next j hj
  refine ⟨ha,?_⟩
  rw [show (((pts[a]!.next[j]!).toNat : Nat) : Int) = pts[a]!.next[j]! by have := (w.nx a ha _ hm).1;omega]
  exact hm
 have h0 := A.n a ha h11
 unfold gM
 split
 ·rename_i h2
  split
  ·exact key 1 (by omega)
  ·rename_i c cs
   exact key _ (by omega)
 ·exact key 0 h0
def LU (ts : List Int) (pts : List Pnt) (I : Nat → Mc → Prop) (r : Mc × Int × Nat) : Prop := r.2.1 = 1 ∨ ∃ s',r.2.2 < pts.length ∧ I r.2.2 s' ∧
 ((r.2.1 = 2 ∧ b7 ts s' pts[r.2.2]! = true ∧ r.1 = s') ∨
  (b7 ts s' pts[r.2.2]! = false ∧ (bO ts s' pts[r.2.2]!).2 ≠ -1 ∧ r.1 = (bO ts s' pts[r.2.2]!).1 ∧ r.2.1 = (bO ts s' pts[r.2.2]!).2))
theorem xU {I:Nat → Mc → Prop}{a:Nat}{l:List Nat}{s:Mc}{last:Nat}(ha:a < pts.length) (hs:I a s)
  (hrec : b7 ts s pts[a]! = false → (bO ts s pts[a]!).2 = -1 → LU ts pts I (gL ts pts l (bO ts s pts[a]!).1 a)) : LU ts pts I (gL ts pts (a :: l) s last) := by
 by_cases h1 : b7 ts s pts[a]! = true
 ·have e : gL ts pts (a :: l) s last = (s, 2, a) := by unfold gL; rw [if_pos h1]
  rw [e]; exact .inr ⟨s,ha,hs,.inl ⟨rfl,h1,rfl⟩⟩
 ·have h1' : b7 ts s pts[a]! = false := by simpa using h1
  by_cases h2 : (bO ts s pts[a]!).2 = -1
  ·have e : gL ts pts (a :: l) s last = gL ts pts l (bO ts s pts[a]!).1 a := by
    conv => lhs;unfold gL
    rw [if_neg h1,if_pos h2]
   rw [e]; exact hrec h1' h2
  ·have e : gL ts pts (a :: l) s last = ((bO ts s pts[a]!).1, (bO ts s pts[a]!).2, a) := by
    unfold gL;rw [if_neg h1,if_neg h2]
   rw [e]; exact .inr ⟨s,ha,hs,.inr ⟨h1',h2,rfl,rfl⟩⟩
theorem pE {I:Nat → Mc → Prop}{a:Nat}{s:Mc}{last:Nat}(ha:a < pts.length) (hs:I a s) (h11:pts[a]!.op = 11):LU ts pts I (gL ts pts [a] s last) :=
 xU ha hs fun h1 h2 => by
  rw [tN h11] at h2
  rcases mZ ts ts.length 0 s with q|q|q <;> (rw [q] at h2;cases h2)
theorem DH (w:WG ts pts) (A:WA ts pts) (I:Nat → Mc → Prop)
  (hI : ∀ a s k,a < pts.length → pts[a]!.op ≠ 11 → cR pts a k → I a s → b7 ts s pts[a]! = false → (bO ts s pts[a]!).2 = -1 → I k (bO ts s pts[a]!).1) :
  ∀ n a cs s last,a < pts.length → I a s → LU ts pts I (gL ts pts (dJ pts n a cs).1 s last) := by
 intro n
 induction n with
 | zero =>
  intro a cs s last ha hs
  by_cases h11 : pts[a]!.op = 11
  ·have e : (dJ pts 0 a cs).1 = [a] := by unfold dJ; rw [if_pos h11]
   rw [e]; exact pE ha hs h11
  ·have e : (dJ pts 0 a cs).1 = [] := by rw [dJ, if_neg h11]
   rw [e]; exact .inl rfl
 | succ n ih =>
  intro a cs s last ha hs
  by_cases h11 : pts[a]!.op = 11
  ·have e : (dJ pts (n + 1) a cs).1 = [a] := by unfold dJ; rw [if_pos h11]
   rw [e]; exact pE ha hs h11
  ·have e : (dJ pts (n + 1) a cs).1 = a :: (dJ pts n (gM pts a cs).1 (gM pts a cs).2).1 := by rw [dJ, if_neg h11]
   have he := tC w A ha h11 cs
   rw [e]
   exact xU ha hs fun h1 h2 => ih _ _ _ _ (cY w he) (hI a s _ ha h11 he hs h1 h2)
end
section
variable {ts : List Int} {pts : List Pnt}
structure Vs (ts : List Int) (pts : List Pnt) (a : Nat) (s : Mc) : Prop where
 l : s.slots.length = ts.length
 u : ∀ v,v < ts.length → s.slots[v]!.set = false → Na ts pts (a,v)
 m : ∀ v,v < ts.length → s.slots[v]!.set = true → Mb ts pts (a,v)
theorem oL (ts:List Int) (s:Mc) (v:Nat) (x:Sl):(bH ts s v x).1.slots.length = s.slots.length := by rw [eE,List.length_set]
theorem yV (ts:List Int):∀ n v (s:Mc),(cO ts n v s).1.slots.length = s.slots.length
 | 0,_,_ => rfl
 | n + 1, v, s => by
  unfold cO;split
  ·split
   ·rw [yV ts n]; exact List.length_set
   ·rfl
  ·exact yV ts n _ _
theorem MU (ts:List Int) (s:Mc) (x:Pnt):(bO ts s x).1.slots.length = s.slots.length:=by
 unfold bO
 split
 ·exact oL _ _ _ _
 split
 ·split
  ·rfl
  ·exact oL _ _ _ _
 split
 ·rw [oL]; split
  ·exact List.length_set
  ·rfl
 split
 ·split
  ·exact oL _ _ _ _
  ·rfl
 split
 ·split
  ·exact oL _ _ _ _
  ·rfl
 split
 ·rfl
 split
 ·exact List.length_set
 split
 ·exact yV _ _ _ _
 ·rfl
theorem Vs.start:Vs ts pts 0 (mc0 ts.length):=by
 refine ⟨by simp [mc0],fun v hv _ => .base ⟨hv,.inl rfl⟩,fun v hv h => ?_⟩
 have e : (mc0 ts.length).slots[v]! = fZ := by
  show (List.replicate ts.length fZ)[v]! = fZ
  rw [a7 _ _ (by simpa using hv)]; simp
 rw [e] at h;cases h
theorem Vs.step (w:WG ts pts) (A:WA ts pts) (a:Nat) (s:Mc) (k:Nat) (ha:a < pts.length) (h11:pts[a]!.op ≠ 11) (he:cR pts a k) (h:Vs ts pts a s) (hu:b7 ts s pts[a]! = false) (hgo:(bO ts s pts[a]!).2 = -1):Vs ts pts k (bO ts s pts[a]!).1:=by
 obtain ⟨y,hy,hs⟩ := w.doS A ha h.l hu h11 hgo
 refine ⟨by rw [MU]; exact h.l,fun v hv hf => ?_,fun v hv ht => ?_⟩
 ·rw [hs v hv] at hf
  by_cases h1 : aL pts[a]! = (v : Int)
  ·rw [if_pos h1,hy] at hf;cases hf
  ·rw [if_neg h1] at hf
   by_cases h2 : aO ts pts[a]! v = 2
   ·exact .base ⟨hv,.inr ⟨a,he,h2,h1⟩⟩
   ·rw [if_neg h2] at hf
    exact .step (a := (a,v)) (h.u v hv hf) ⟨rfl,he,h1⟩
 ·rw [hs v hv] at ht
  by_cases h1 : aL pts[a]! = (v : Int)
  ·exact .base ⟨a,he,h1⟩
  ·rw [if_neg h1] at ht
   by_cases h2 : aO ts pts[a]! v = 2
   ·rw [if_pos h2] at ht;cases ht
   ·rw [if_neg h2] at ht
    exact .step (a := (a,v)) (h.m v hv ht) ⟨rfl,he,h2⟩
theorem uH {s:Mc}{x:Pnt}(h:b7 ts s x = true):∃ v,v < ts.length ∧ aO ts x v ≠ 0 ∧ s.slots[v]!.set = false:=by
 unfold b7 at h
 obtain ⟨v,hv,h2⟩ := List.any_eq_true.1 h
 rw [Bool.and_eq_true,decide_eq_true_eq] at h2
 exact ⟨v,List.mem_range.1 hv,h2.1,by simpa using h2.2⟩
end
theorem nS {α:Type}[Inhabited α] {l r:List α}{c:Nat}(h:c < l.length):(l ++ r)[c]! = l[c]!:=by
 rw [a7 _ _ (by rw [List.length_append]; omega),a7 _ _ h,List.getElem_append_left h]
theorem Im {α:Type}[Inhabited α] {l:List α}{x:α}:(l ++ [x])[l.length]! = x:=by
 rw [a7 _ _ (by rw [List.length_append,List.length_singleton]; omega)]; simp
theorem NV {stk:List Tg}(hl:0 < stk.length) (h:stk[0]! = ⟨0,true⟩):bZ stk 0 = 0:=by
 cases stk with
 | nil => simp at hl
 | cons t l =>
  have ht : t = ⟨0,true⟩ := h
  subst ht
  unfold bZ
  rw [List.findIdx?_cons]
  simp
def Hd (m : List Cl) : Prop := ∀ c,c < m.length → m[c]!.stk[0]! = ⟨0,true⟩
theorem Hq {m:List Cl}(h:OkM m) (hh:Hd m){x:Pt}(hx:0 ≤ x.cell ∧ x.cell < m.length) (ht:x.tag = 0) (ha:m[x.cell.toNat]!.alive = true) (wr:Bool):aY m x wr = 0:=by
 have hc := h.at (k := x.cell.toNat) (by omega)
 have hs := hh x.cell.toNat (by omega)
 have h0 := NV (by have := hc.l;omega) hs
 unfold aY
 rw [if_neg (fun q => q hx),if_neg (by rw [ha]; decide),ht,h0,if_neg (by decide),if_neg]
 rintro ⟨_,h2⟩
 have e : m[x.cell.toNat]!.stk[(0 : Int).toNat]! = m[x.cell.toNat]!.stk[0]! := rfl
 rw [e,hs] at h2;cases h2
theorem yL {m:List Cl}(hh:Hd m){k:Nat}{c:Cl}(hc:c.stk[0]! = ⟨0,true⟩):Hd (m.set k c) := fun j hj => by
 rw [List.length_set] at hj
 rw [aP]
 split
 ·exact hc
 ·exact hh j hj
theorem r7 {m:List Cl}(h:OkM m) (hh:Hd m){k:Nat}(hk:k < m.length) (x:Pt) (wr:Bool):(hZ m[k]! x wr).stk[0]! = ⟨0,true⟩:=by
 have hl := (h.at hk).l
 show (eV m[k]!.stk _ wr)[0]! = _
 rw [(wB (by omega)).1]; exact hh k hk
theorem Hd.tch {m:List Cl}(h:OkM m) (hh:Hd m) (x:Pt) (wr:Bool):Hd (cP m x wr):=by
 unfold cP;split
 ·rename_i hk;exact yL hh (r7 h hh (dM hk).2.2 x wr)
 ·exact hh
theorem Hd.fr {m:List Cl}(h:OkM m) (hh:Hd m) (x:Pt):Hd (gO m x):=by
 unfold gO;split
 ·rename_i hk;exact yL hh (r7 h hh (dM hk).2.2 x true)
 ·exact hh
theorem Hd.wr {m:List Cl}(h:OkM m) (hh:Hd m) (x:Pt) (v:Int):Hd (nU m x v):=by
 unfold nU
 by_cases hk : o6 m x v = 0
 ·rw [if_pos hk]
  unfold o6 at hk
  by_cases hv : 0 ≤ v ∧ v ≤ 9
  ·rw [if_pos hv] at hk;exact yL hh (r7 h hh (dM hk).2.2 x true)
  ·rw [if_neg hv] at hk;cases hk
 ·rw [if_neg hk]; exact hh
theorem lC {m:List Cl}{x:Pt}{u:Bool}(h:j7 m x u = 0):aY m x u = 0:=by
 unfold j7 at h
 by_cases h0 : aY m x u = 0
 ·exact h0
 ·rw [if_neg h0] at h;exact h
theorem Hd.ln {m:List Cl}(h:OkM m) (hh:Hd m) (x:Pt) (u:Bool):Hd (jI m x u):=by
 unfold jI;split
 ·rename_i hk
  have h0 := dM (lC hk)
  have h1 := r7 h hh h0.2.2 x u
  have h2 := ((h.at h0.2.2).tch x u).l
  refine yL hh ?_
  show ((hZ m[x.cell.toNat]! x u).stk ++ [_])[0]! = _
  rw [nS (by omega)]; exact h1
 ·exact hh
theorem Hd.nw {m:List Cl}(hh:Hd m) (v:Int):Hd (m ++ [nO v]) := fun c hc => by
 rw [List.length_append,List.length_singleton] at hc
 by_cases q : c < m.length
 ·rw [nS q]; exact hh c q
 ·have e : c = m.length := by omega
  subst e
  rw [Im]; rfl
def vD (m : List Cl) (c : Nat) : Bool := m[c]!.alive
theorem sV {m:List Cl}{k c:Nat}{x:Cl}(hc:c < m.length):vD (m.set k x) c = if k = c then x.alive else vD m c:=by
 unfold vD
 rw [aP]
 by_cases h : k = c
 ·rw [if_pos ⟨h,hc⟩,if_pos h]
 ·rw [if_neg (fun q => h q.1),if_neg h]
theorem Dz (m:List Cl) (x:Pt) (wr:Bool) (c:Nat) (hc:c < m.length):vD (cP m x wr) c = vD m c:=by
 unfold cP;split
 ·rw [sV hc]; split
  ·rename_i e;subst e;rfl
  ·rfl
 ·rfl
theorem IL (m:List Cl) (x:Pt) (u:Bool) (c:Nat) (hc:c < m.length):vD (jI m x u) c = vD m c:=by
 unfold jI;split
 ·rw [sV hc]; split
  ·rename_i e;subst e;rfl
  ·rfl
 ·rfl
theorem ML (m:List Cl) (x:Pt) (v:Int) (c:Nat) (hc:c < m.length):vD (nU m x v) c = vD m c:=by
 unfold nU;split
 ·rw [sV hc]; split
  ·rename_i e;subst e;rfl
  ·rfl
 ·rfl
theorem C7 {m:List Cl}{x:Pt}(hk:aY m x true = 0) (c:Nat) (hc:c < m.length):vD (gO m x) c = if x.cell = (c:Int) then false else vD m c:=by
 have h0 := dM hk
 unfold gO
 rw [if_pos hk,sV hc]
 by_cases q : x.cell = (c : Int)
 ·rw [if_pos q,if_pos (by omega)]
 ·rw [if_neg q,if_neg (by omega)]
structure Own (ts : List Int) (s : Mc) (X : Option Nat) : Prop where
 k : OkS ts.length s
 h : Hd s.cells
 o : ∀ v,v < ts.length → ts[v]! = 2 → s.slots[v]!.set = true → 0 ≤ s.slots[v]!.ptr.cell ∧ s.slots[v]!.ptr.cell < s.cells.length ∧ s.slots[v]!.ptr.tag = 0 ∧ vD s.cells s.slots[v]!.ptr.cell.toNat = true
 d : ∀ v u,v < ts.length → u < ts.length → ts[v]! = 2 → ts[u]! = 2 → s.slots[v]!.set = true → s.slots[u]!.set = true → s.slots[v]!.ptr.cell = s.slots[u]!.ptr.cell → v = u
 a : ∀ c,c < s.cells.length → vD s.cells c = true → X = some c ∨ ∃ v,v < ts.length ∧ ts[v]! = 2 ∧ s.slots[v]!.set = true ∧ s.slots[v]!.ptr.cell = (c : Int)
 x : ∀ c,X = some c → c < s.cells.length ∧ vD s.cells c = true ∧ ∀ v,v < ts.length → ts[v]! = 2 → s.slots[v]!.set = true → s.slots[v]!.ptr.cell ≠ (c : Int)
theorem Own.k0 {ts:List Int}{s:Mc}{X:Option Nat}(w:Own ts s X){v:Nat}(hv:v < ts.length) (h2:ts[v]! = 2) (hs:s.slots[v]!.set = true) (wr:Bool):aY s.cells s.slots[v]!.ptr wr = 0:=by
 obtain ⟨h1,h3,h4,h5⟩ := w.o v hv h2 hs
 exact Hq w.k.m w.h ⟨h1,h3⟩ h4 h5 wr
theorem Own.cells {ts:List Int}{s:Mc}{X:Option Nat}(w:Own ts s X){m:List Cl}(hm:OkM m) (hh:Hd m) (hl:m.length = s.cells.length) (ha:∀ c,c < s.cells.length → vD m c = vD s.cells c) (r:List Int):Own ts ⟨s.slots,m,r⟩ X:=by
 refine ⟨⟨hm,w.k.l⟩,hh,fun v hv h2 hs => ?_,w.d,fun c hc h => ?_,fun c hc => ?_⟩
 ·obtain ⟨h1, h3, h4, h5⟩ := w.o v hv h2 hs
  exact ⟨h1,by show _ < (m.length : Int);rw [hl]; exact h3,h4,by show vD m _ = true;rw [ha _ (show s.slots[v]!.ptr.cell.toNat < s.cells.length by omega)]; exact h5⟩
 ·have hc' : c < m.length := hc
  exact w.a c (by omega) (by rw [← ha c (by omega)]; exact h)
 ·obtain ⟨h1, h3, h4⟩ := w.x c hc
  exact ⟨by show c < m.length;omega,by show vD m c = true;rw [ha c h1]; exact h3,h4⟩
theorem Own.put0 {ts:List Int}{s:Mc}{X:Option Nat}(w:Own ts s X){v:Nat}(h2:ts[v]! ≠ 2) (y:Sl):Own ts (bH ts s v y).1 X ∧ (bH ts s v y).2 = -1:=by
 have hl : (s.slots.set v y).length = ts.length := by rw [List.length_set]; exact w.k.l
 have e : ∀ u : Nat, ts[u]! = 2 → (s.slots.set v y)[u]! = s.slots[u]! := fun u hu => by
  rw [aP,if_neg]; rintro ⟨q,_⟩; rw [q] at h2;exact h2 hu
 unfold bH
 rw [if_neg (fun h => h2 h.1)]
 refine ⟨⟨⟨w.k.m,hl⟩,w.h,fun u hu h hs => ?_,fun u u' hu hu' h h' hs hs' hc => ?_,fun c hc h => ?_,fun c hc => ?_⟩,rfl⟩
 ·dsimp only at hs ⊢; rw [e u h] at hs ⊢; exact w.o u hu h hs
 ·dsimp only at hs hs' hc;rw [e u h] at hs hc;rw [e u' h'] at hs' hc;exact w.d u u' hu hu' h h' hs hs' hc
 ·rcases w.a c hc h with q | ⟨u, q1, q2, q3, q4⟩
  ·exact .inl q
  ·exact .inr ⟨u,q1,q2,by dsimp only;rw [e u q2]; exact q3,by dsimp only;rw [e u q2]; exact q4⟩
 ·obtain ⟨h1, h3, h4⟩ := w.x c hc
  exact ⟨h1,h3,fun u q1 q2 q3 => by dsimp only at q3 ⊢; rw [e u q2] at q3 ⊢; exact h4 u q1 q2 q3⟩
theorem Own.free {ts:List Int}{s:Mc}{X:Option Nat}(w:Own ts s X){v:Nat}(hv:v < ts.length) (h2:ts[v]! = 2) (hs:s.slots[v]!.set = true) (y:Sl) (hy:y.set = false) (r:List Int) :
  Own ts ⟨s.slots.set v y,gO s.cells s.slots[v]!.ptr,r⟩ X := by
 have hk := w.k0 hv h2 hs true
 have hlen := KP s.cells s.slots[v]!.ptr
 have hl : (s.slots.set v y).length = ts.length := by rw [List.length_set]; exact w.k.l
 have e : ∀ u : Nat, u ≠ v → (s.slots.set v y)[u]! = s.slots[u]! := fun u hu => by
  rw [aP,if_neg]; rintro ⟨q,_⟩; exact hu q.symm
 have ev : (s.slots.set v y)[v]! = y := by rw [aP,if_pos ⟨rfl,by rw [w.k.l]; exact hv⟩]
 have nev : ∀ u : Nat,(s.slots.set v y)[u]!.set = true → u ≠ v := fun u h q => by rw [q,ev,hy] at h;cases h
 obtain ⟨b1,b2,b3,b4⟩ := w.o v hv h2 hs
 refine ⟨⟨w.k.m.fr _,hl⟩,w.h.fr w.k.m _,fun u hu h hs' => ?_,fun u u' hu hu' h h' q q' hc => ?_,fun c hc h => ?_,fun c hc => ?_⟩
 ·have hne := nev u hs'
  dsimp only at hs' ⊢
  rw [e u hne] at hs' ⊢
  obtain ⟨c1,c2,c3,c4⟩ := w.o u hu h hs'
  refine ⟨c1,by rw [hlen]; exact c2,c3,?_⟩
  rw [C7 hk _ (by omega),if_neg]
  ·exact c4
  ·intro q;exact hne (w.d u v hu hv h h2 hs' hs (by omega))
 ·have n1 := nev u q
  have n2 := nev u' q'
  dsimp only at q q' hc
  rw [e u n1] at q hc;rw [e u' n2] at q' hc
  exact w.d u u' hu hu' h h' q q' hc
 ·dsimp only at hc h
  rw [hlen] at hc
  rw [C7 hk c hc] at h
  by_cases q : s.slots[v]!.ptr.cell = (c : Int)
  ·rw [if_pos q] at h;cases h
  ·rw [if_neg q] at h
   rcases w.a c hc h with q2 | ⟨u,q1,q2,q3,q4⟩
   ·exact .inl q2
   ·have hne : u ≠ v := fun e' => q (by rw [← e']; exact q4)
    exact .inr ⟨u,q1,q2,by dsimp only;rw [e u hne]; exact q3,by dsimp only;rw [e u hne]; exact q4⟩
 ·obtain ⟨h1, h3, h4⟩ := w.x c hc
  refine ⟨by dsimp only;rw [hlen]; exact h1,?_,fun u q1 q2 q3 => ?_⟩
  ·dsimp only;rw [C7 hk c h1,if_neg (h4 v hv h2 hs)]; exact h3
  ·have hne := nev u q3
   dsimp only at q3 ⊢
   rw [e u hne] at q3 ⊢
   exact h4 u q1 q2 q3
theorem Own.take {ts:List Int}{s:Mc}{c:Nat}(w:Own ts s (some c)){v:Nat}(hv:v < ts.length) (h2:ts[v]! = 2) (hs:s.slots[v]!.set = false) (y:Sl) (hy:y.set = true) (hp:y.ptr = ⟨c,0⟩):Own ts ⟨s.slots.set v y,s.cells,s.read⟩ none:=by
 have hl : (s.slots.set v y).length = ts.length := by rw [List.length_set]; exact w.k.l
 have e : ∀ u : Nat, u ≠ v → (s.slots.set v y)[u]! = s.slots[u]! := fun u hu => by
  rw [aP,if_neg]; rintro ⟨q,_⟩; exact hu q.symm
 have ev : (s.slots.set v y)[v]! = y := by rw [aP,if_pos ⟨rfl,by rw [w.k.l]; exact hv⟩]
 obtain ⟨x1,x2,x3⟩ := w.x c rfl
 refine ⟨⟨w.k.m,hl⟩,w.h,fun u hu h hs' => ?_,fun u u' hu hu' h h' q q' hc => ?_,fun c' hc h => ?_,fun c' hc => by cases hc⟩
 ·by_cases q : u = v
  ·subst q; dsimp only; rw [ev, hp]
   exact ⟨by dsimp only;omega,by dsimp only;omega,rfl,by simpa using x2⟩
  ·dsimp only at hs' ⊢; rw [e u q] at hs' ⊢; exact w.o u hu h hs'
 ·dsimp only at q q' hc
  by_cases n1 : u = v
  ·by_cases n2 : u' = v
   ·rw [n1,n2]
   ·exfalso;rw [n1,ev,hp,e u' n2] at hc;rw [e u' n2] at q'; exact x3 u' hu' h' q' hc.symm
  ·by_cases n2 : u' = v
   ·exfalso;rw [n2,ev,hp,e u n1] at hc;rw [e u n1] at q;exact x3 u hu h q hc
   ·rw [e u n1] at q hc;rw [e u' n2] at q' hc;exact w.d u u' hu hu' h h' q q' hc
 ·dsimp only at hc h
  rcases w.a c' hc h with q2 | ⟨u,q1,q2,q3,q4⟩
  ·cases q2
   exact .inr ⟨v,hv,h2,by dsimp only;rw [ev]; exact hy,by dsimp only;rw [ev,hp]⟩
  ·have hne : u ≠ v := fun e' => by rw [e', hs] at q3; cases q3
   exact .inr ⟨u,q1,q2,by dsimp only;rw [e u hne]; exact q3,by dsimp only;rw [e u hne]; exact q4⟩
theorem Gk {xs:List Sl}(v:Nat) (y z:Sl):(xs.set v y).set v z = xs.set v z := by simp
theorem Own.putB {ts:List Int}{s:Mc}{c:Nat}(w:Own ts s (some c)){v:Nat}(hv:v < ts.length) (h2:ts[v]! = 2) (y:Sl) (hy:y.set = true) (hp:y.ptr = ⟨c,0⟩):Own ts (bH ts s v y).1 none ∧ (bH ts s v y).2 = -1:=by
 unfold bH
 by_cases hs : s.slots[v]!.set = true
 ·rw [if_pos ⟨h2, hs⟩]
  have hk := w.k0 hv h2 hs true
  have w1 := w.free hv h2 hs fZ rfl s.read
  have w2 := w1.take hv h2 (by dsimp only;rw [aP,if_pos ⟨rfl,by rw [w.k.l]; exact hv⟩]; rfl) y hy hp
  dsimp only at w2 ⊢
  rw [Gk] at w2
  refine ⟨w2,?_⟩
  unfold jX;rw [if_pos hk]
 ·rw [if_neg (fun h => hs h.2)]
  exact ⟨w.take hv h2 (by simpa using hs) y hy hp,rfl⟩
section
variable {ts : List Int} {s : Mc}
theorem Own.new (w:Own ts s none){n:Int}(hn:0 ≤ n ∧ n ≤ 9) (hl:s.cells.length ≠ 200) (r:List Int):Own ts ⟨s.slots,s.cells ++ [nO n],r⟩ (some s.cells.length):=by
 have hlen : (s.cells ++ [nO n]).length = s.cells.length + 1 := by rw [List.length_append,List.length_singleton]
 have lo : ∀ c, c < s.cells.length → vD (s.cells ++ [nO n]) c = vD s.cells c := fun c hc => by
  unfold vD
  rw [nS hc]
 have hi : vD (s.cells ++ [nO n]) s.cells.length = true := by
  unfold vD;rw [Im]; rfl
 refine ⟨⟨w.k.m.nw hn (by have := w.k.m.l;omega),w.k.l⟩,w.h.nw n,fun v hv h2 hs => ?_,w.d,fun c hc h => ?_,fun c hc => ?_⟩
 ·obtain ⟨h1, h3, h4, h5⟩ := w.o v hv h2 hs
  exact ⟨h1,by dsimp only;omega,h4,by dsimp only;rw [lo _ (by omega)]; exact h5⟩
 ·dsimp only at hc h
  by_cases q : c < s.cells.length
  ·rw [lo c q] at h
   rcases w.a c q h with q2|q2
   ·cases q2
   ·exact .inr q2
  ·exact .inl (by congr 1;omega)
 ·cases hc
  refine ⟨by dsimp only;omega,hi,fun v hv h2 hs => ?_⟩
  obtain ⟨h1,h3,h4,h5⟩ := w.o v hv h2 hs
  dsimp only;omega
theorem Own.give (w:Own ts s none){v:Nat}(hv:v < ts.length) (h2:ts[v]! = 2) (hs:s.slots[v]!.set = true):Own ts ⟨s.slots.set v fZ,s.cells,s.read⟩ (some s.slots[v]!.ptr.cell.toNat):=by
 have hl : (s.slots.set v fZ).length = ts.length := by rw [List.length_set]; exact w.k.l
 have e : ∀ u : Nat, u ≠ v → (s.slots.set v fZ)[u]! = s.slots[u]! := fun u hu => by
  rw [aP,if_neg]; rintro ⟨q,_⟩; exact hu q.symm
 have ev : (s.slots.set v fZ)[v]! = fZ := by rw [aP,if_pos ⟨rfl,by rw [w.k.l]; exact hv⟩]
 have nev : ∀ u : Nat,(s.slots.set v fZ)[u]!.set = true → u ≠ v := fun u h q => by rw [q,ev] at h;cases h
 obtain ⟨b1,b2,b3,b4⟩ := w.o v hv h2 hs
 refine ⟨⟨w.k.m,hl⟩,w.h,fun u hu h hs' => ?_,fun u u' hu hu' h h' q q' hc => ?_,fun c hc h => ?_,fun c hc => ?_⟩
 ·have hne := nev u hs'
  dsimp only at hs' ⊢; rw [e u hne] at hs' ⊢; exact w.o u hu h hs'
 ·have n1 := nev u q
  have n2 := nev u' q'
  dsimp only at q q' hc
  rw [e u n1] at q hc;rw [e u' n2] at q' hc
  exact w.d u u' hu hu' h h' q q' hc
 ·rcases w.a c hc h with q2 | ⟨u, q1, q2, q3, q4⟩
  ·cases q2
  ·by_cases q : u = v
   ·subst q;exact .inl (by congr 1;omega)
   ·exact .inr ⟨u,q1,q2,by dsimp only;rw [e u q]; exact q3,by dsimp only;rw [e u q]; exact q4⟩
 ·cases hc
  refine ⟨by dsimp only;omega,b4,fun u q1 q2 q3 => ?_⟩
  have hne := nev u q3
  dsimp only at q3 ⊢
  rw [e u hne] at q3 ⊢
  intro q;exact hne (w.d u v q1 hv q2 h2 q3 hs (by omega))
theorem Own.clr (w:Own ts s none){v:Nat}(h2:ts[v]! ≠ 2):Own ts ⟨s.slots.set v fZ,s.cells,s.read⟩ none:=by
 have h := (w.put0 h2 fZ).1
 unfold bH at h
 rwa [if_neg (fun h => h2 h.1)] at h
theorem Own.do (w:Own ts s none){x:Pnt}(A:PtA ts x) (h11:x.op ≠ 11) (hx:x.op ≤ 8 → 0 ≤ x.x ∧ x.x < ts.length) (hop:1 ≤ x.op) (hy:3 ≤ x.op → x.op ≤ 7 → 0 ≤ x.y ∧ x.y < ts.length) (hu:b7 ts s x = false):Own ts (bO ts s x).1 none:=by
 unfold bO
 by_cases h1 : x.op = 1
 ·rw [if_pos h1]; exact (w.put0 (by rw [A.t1 h1]; decide) _).1
 rw [if_neg h1]
 by_cases h2 : x.op = 2
 ·rw [if_pos h2]
  split
  ·exact w
  ·rename_i h200
   have hxb := hx (by omega)
   exact ((w.new (A.n (.inr h2)) h200 s.read).putB (v := x.x.toNat) (by omega) (A.t2 (.inl h2)) _ rfl rfl).1
 rw [if_neg h2]
 by_cases h3 : x.op = 3
 ·rw [if_pos h3]
  have hxb := hx (by omega)
  have hyb := hy (by omega) (by omega)
  obtain ⟨ht,hne⟩ := A.t3 h3
  have hyn : ((x.y.toNat : Nat) : Int) = x.y := by omega
  have hys : s.slots[x.y.toNat]!.set = true := gX hu (v := x.y.toNat) (by omega) (by
   unfold aO;rw [if_pos h3,if_pos hyn]; split <;> decide)
  by_cases q2 : ts[x.y.toNat]! = 2
  ·rw [if_pos (uW.2 (.inl q2))]
   have g := w.give (v := x.y.toNat) (by omega) q2 hys
   obtain ⟨b1,b2,b3,b4⟩ := w.o x.y.toNat (by omega) q2 hys
   refine (g.putB (v := x.x.toNat) (by omega) (by rw [ht]; exact q2) _ hys ?_).1
   generalize s.slots[x.y.toNat]! = z at b1 b3
   obtain ⟨zs,zn,zc,zt⟩ := z
   dsimp only at b1 b3 ⊢
   rw [b3,Int.toNat_of_nonneg b1]
  ·split
   ·exact ((w.clr (v := x.y.toNat) q2).put0 (by rw [ht]; exact q2) _).1
   ·exact (w.put0 (by rw [ht]; exact q2) _).1
 rw [if_neg h3]
 by_cases h4 : x.op = 4 ∨ x.op = 5
 ·rw [if_pos h4]
  have hxt : ts[x.x.toNat]! ≠ 2 := by
   rcases h4 with h4|h4
   ·rw [(A.t4 h4).1]; decide
   ·rw [(A.t5 h4).1]; decide
  split
  ·exact ((w.cells (w.k.m.ln _ _) (w.h.ln w.k.m _ _) (DY _ _ _) (fun c hc => IL _ _ _ c hc) _).put0 hxt _).1
  ·exact w
 rw [if_neg h4]
 by_cases h6 : x.op = 6
 ·rw [if_pos h6]
  have hxt : ts[x.x.toNat]! ≠ 2 := by rw [(A.t6 h6).1]; decide
  split
  ·exact ((w.cells (w.k.m.tch _ _) (w.h.tch w.k.m _ _) (lW _ _ _) (fun c hc => Dz _ _ _ c hc) _).put0 hxt _).1
  ·exact w
 rw [if_neg h6]
 by_cases h7 : x.op = 7
 ·rw [if_pos h7]; exact w.cells (w.k.m.wr _ _) (w.h.wr w.k.m _ _) (Ko _ _ _) (fun c hc => ML _ _ _ c hc) _
 rw [if_neg h7]
 by_cases h8 : x.op = 8
 ·rw [if_pos h8]
  have hxb := hx (by omega)
  have hxn : ((x.x.toNat : Nat) : Int) = x.x := by omega
  have hxs : s.slots[x.x.toNat]!.set = true := gX hu (v := x.x.toNat) (by omega) (by
   unfold aO;rw [if_neg (by omega),if_neg (by omega),if_neg (by omega),if_pos h8,if_pos hxn]; decide)
  exact w.free (v := x.x.toNat) (by omega) (A.t2 (.inr h8)) hxs fZ rfl _
 rw [if_neg h8,if_neg h11]
 exact w
end
theorem Own.fin {ts:List Int}:∀ n v (s:Mc),Own ts s none → v + n = ts.length → (∀ u,u < v → ts[u]! = 2 → s.slots[u]!.set = false) →
  (cO ts n v s).2 = 0 ∧ Own ts (cO ts n v s).1 none ∧ ∀ u,u < ts.length → ts[u]! = 2 → (cO ts n v s).1.slots[u]!.set = false
 | 0,v,s,w,hv,h => ⟨rfl,w,fun u hu h2 => h u (by omega) h2⟩
 | n + 1, v, s, w, hv, h => by
  unfold cO
  by_cases q : ts[v]! = 2 ∧ s.slots[v]!.set = true
  ·rw [if_pos q, if_pos (w.k0 (by omega) q.1 q.2 true)]
   refine Own.fin n (v + 1) _ (w.free (by omega) q.1 q.2 fZ rfl _) (by omega) fun u hu h2 => ?_
   dsimp only
   rw [aP]
   by_cases e : v = u
   ·rw [if_pos ⟨e,by rw [w.k.l]; omega⟩]; rfl
   ·rw [if_neg (fun h => e h.1)]; exact h u (by omega) h2
  ·rw [if_neg q]
   refine Own.fin n (v + 1) s w (by omega) fun u hu h2 => ?_
   by_cases e : u = v
   ·subst e
    cases hs : s.slots[u]!.set with
    | false => rfl
    | true => exact absurd ⟨h2,hs⟩ q
   ·exact h u (by omega) h2
theorem Own.start (ts:List Int):Own ts (mc0 ts.length) none:=by
 have e : ∀ v, v < ts.length → (mc0 ts.length).slots[v]! = fZ := fun v hv => by
  show (List.replicate ts.length fZ)[v]! = fZ
  rw [a7 _ _ (by simpa using hv)]; simp
 refine ⟨OkS.mc0 _,fun c hc => ?_,fun v hv _ hs => ?_,fun v u hv _ _ _ hs => ?_,fun c hc => ?_,fun c hc => by cases hc⟩
 ·have : c < ([] : List Cl).length := hc
  simp at this
 ·rw [e v hv] at hs;cases hs
 ·rw [e v hv] at hs;cases hs
 ·have : c < ([] : List Cl).length := hc
  simp at this
theorem uS (ts:List Int):∀ n v (s:Mc),(cO ts n v s).1.read = s.read
 | 0,_,_ => rfl
 | n + 1, v, s => by
  unfold cO;split
  ·split
   ·exact uS ts n _ _
   ·rfl
  ·exact uS ts n _ _
theorem kM (ts:List Int) (s:Mc) (v:Nat) (x:Sl):(bH ts s v x).1.read = s.read := by unfold bH;split <;> rfl
structure Co where
 val : Int
 alive : Bool
 next : Int
 av : AV
instance : Inhabited Co:=⟨⟨0,false,0,.imm 0 []⟩⟩
def eX (c : Co) : List AV := [iv c.val,bv c.alive,iv c.next,c.av]
instance : FlT eX 4:=⟨fun _ => rfl⟩
instance : FE eX (fun c => [iv c.val,bv c.alive,iv c.next,c.av]):=⟨fun _ => rfl⟩
def rS (c : Cl) : Co := ⟨c.val,c.alive,c.next,sl cJ c.stk⟩
def dB (m : List Cl) (j : Nat) (X : AV) : List Co := (m.map rS).set j { rS m[j]! with av := X }
theorem kA (m:List Cl):flat eX (m.map rS) = flat bJ m:=by
 unfold flat;rw [List.flatMap_map]; rfl
theorem c6 {m:List Cl}{j:Nat}{X:AV}:(dB m j X).length = m.length := by unfold dB;rw [List.length_set,List.length_map]
theorem gY {m:List Cl}{j:Nat}{X:AV}(h:j < m.length):(dB m j X)[j]! = ⟨m[j]!.val,m[j]!.alive,m[j]!.next,X⟩:=by
 unfold dB
 rw [a7 _ _ (by rw [List.length_set,List.length_map]; exact h),List.getElem_set_self]; rfl
theorem jE {m:List Cl}{j:Nat}{X:AV}(h:j < m.length):flat eX (dB m j X) = flat bJ (m.take j) ++ ([iv m[j]!.val,bv m[j]!.alive,iv m[j]!.next] ++ X :: flat bJ (m.drop (j + 1))):=by
 unfold dB
 rw [List.set_eq_take_append_cons_drop,if_pos (by rw [List.length_map]; exact h),← cX,← List.map_take,kA,← List.map_drop]
 congr 1
 show eX _ ++ flat eX _ = _
 rw [kA]; rfl
theorem wX {m:List Cl}{j:Nat}{X:AV}(h:j < m.length):flat eX (dB m j X) = (flat bJ (m.take j) ++ [iv m[j]!.val,bv m[j]!.alive,iv m[j]!.next]) ++ X :: flat bJ (m.drop (j + 1)):=by
 rw [jE h,List.append_assoc]
theorem Bb {m:List Cl}{j:Nat}{r:List Tg}:flat eX (dB m j (sl cJ r)) = flat bJ (m.set j { m[j]! with stk := r }):=by
 rw [← kA,List.map_set]; rfl
theorem yI {m:List Cl}{j:Nat}{X:AV}(h:j < m.length):iB (flat bJ m) (0 + j * 4 + 3) [X] = flat eX (dB m j X):=by
 rw [← kA]
 have := gF (f := eX) (xs := m.map rS) (k := j) (j := 3) (new := [X]) (y := { rS m[j]! with av := X }) (by rw [List.length_map]; exact h) (by simp) (by
  have e : (m.map rS)[j]! = rS m[j]! := by rw [a7 _ _ (by rw [List.length_map]; exact h),List.getElem_map,a7 _ _ h]
  rw [e]; rfl)
 exact this
theorem tH {m:List Cl}{j:Nat}{X Y:AV}(h:j < m.length):iB (flat eX (dB m j X)) (0 + j * 4 + 3) [Y] = flat eX (dB m j Y):=by
 have e : dB m j Y = (dB m j X).set j { rS m[j]! with av := Y } := by unfold dB;rw [List.set_set]
 rw [e]
 exact gF (by rw [c6]; exact h) (by simp) (by rw [gY h]; rfl)
theorem yM {m:List Cl}{j:Nat}{X:AV}{v:Int}(h:j < m.length):iB (flat eX (dB m j X)) (0 + j * 4 + 2) [iv v] = flat eX (dB (m.set j { m[j]! with next := v }) j X):=by
 have e : dB (m.set j { m[j]! with next := v }) j X = (dB m j X).set j ⟨m[j]!.val, m[j]!.alive, v, X⟩ := by
  have e2 : (m.set j { m[j]! with next := v })[j]! = { m[j]! with next := v } := by rw [a7 _ _ (by rw [List.length_set]; exact h),List.getElem_set_self]
  unfold dB
  rw [e2,List.map_set,List.set_set,List.set_set]; rfl
 rw [e]
 exact gF (by rw [c6]; exact h) (by simp) (by rw [gY h]; rfl)
theorem Le.cls {ts:List (Nat × AV)}{hs:List (Nat × Option (List AV))}{n:Nat}{z0:Lo}{o q j k:Nat}{m:List Cl}{r:List Tg}(hj:aQ hs o = some (flat eX (dB m j (.own q 0 k 2)))) (hq:aQ hs q = some (flat cJ r)) (hk:k = r.length) (hjm:j < m.length) (hoq:o ≠ q) :
  Le ⟨ts,hs,n,z0⟩ ⟨ts,(o,some (flat bJ (m.set j { m[j]! with stk := r }))) :: (q,none) :: hs,n,z0⟩ := by
 subst hk
 rw [wX hjm] at hj
 have h := Le.frzC (ts := ts) (n := n) (z0 := z0) _ hj hq hoq
 rw [← Bb,wX hjm]; exact h
theorem zX {ρ:Nat → Option Nat}{m:List Cl}{j k i i':Nat}(hr:ρ i = some i'):RnL ρ (flat eX (dB m j (.own i 0 k 2))) (flat eX (dB m j (.own i' 0 k 2))):=by
 by_cases h : j < m.length
 ·rw [jE h, jE h]
  exact RnL.app (RnL.purI inferInstance) (RnL.app (RnL.purI inferInstance) (RnL.cons (RnV.own hr) (RnL.purI inferInstance)))
 ·have e : ∀ X, dB m j X = m.map rS := fun X => List.set_eq_of_length_le (by rw [List.length_map]; omega)
  rw [e,e,kA]
  exact RnL.purI inferInstance
theorem sE {p:Prop}{α:Type}{a c:Option α}{b:α}(h:some b = c) (e:a = some b := by rfl):p ∨ a = c := .inr (e.trans h)
section
variable {P : Program} {N : Nat} {Q : Exit → AS → Prop} {all : Array Oper} {rest : List Oper} {ts : List (Nat × AV)} {hs : List (Nat × Option (List AV))} {n : Nat} {z0 : Lo} {md : Md}
variable {ty : TypeId} {pos : String} {af : Array Edge}
theorem a6 {d:Nat}{k:FuncId}{l:List Operand}{tys:Array TypeId}{avs avs0:List AV}{H0:List (Nat × Option (List AV))}{rr rr':AV}{hh:List (Nat × Option (List AV))}
  (mp : List Nat) (n1 : Nat) (ws : List (Nat × Option (List AV))) (h : MC P k avs0 H0 mp.length (fun _ : Unit => True) (fun _ => rr) (fun _ => hh)) [hc : CaT P k] (ha : evL (lk ts) l = some avs) (hd : distinct mp = true)
  (hM : Nat.ble (n + (n1 - mp.length)) aT = true) (hN : Nat.blt d N = true)
  {md' : Md} [hmd : MdA md (fJ l ++ mp.map .inr) (ws.map (fun p => .inr p.1) ++ [.inl d]) md']
  (kk : RW P N all Q md' rest ⟨(d,rr') :: ts,iA hs ws,n + (n1 - mp.length),z0⟩)
  (hH0 : uQ hs H0 mp 0 mp := by repeat' (first|exact trivial|(refine And.intro ⟨_,_,rfl,by assumption,?_⟩ ?_)|exact RnL.purI inferInstance|exact zX rfl|exact RnV.purI inferInstance|exact RnV.own rfl|exact RnV.optr rfl|exact RnL.nil|refine RnL.cons ?_ ?_|refine RnV.agg ?_|refine RnV.tup ?_))
  (hk : gU mp.length H0 = true := by rfl)
  (har : RnL (mp[·]?) avs0 avs := by repeat' (first|exact RnL.purI inferInstance|exact zX rfl|exact RnV.purI inferInstance|exact RnV.own rfl|exact RnV.optr rfl|exact RnL.nil|refine RnL.cons ?_ ?_|refine RnV.agg ?_|refine RnV.tup ?_))
  (hr : RnV (Ad mp n n1) rr rr' := by repeat' (first|exact RnL.purI inferInstance|exact zX rfl|exact RnV.purI inferInstance|exact RnV.own rfl|exact RnV.optr rfl|exact RnL.nil|refine RnL.cons ?_ ?_|refine RnV.agg ?_|refine RnV.tup ?_))
  (hwa : wP mp ws = true := by simp [wP])
  (hw : rF (Ad mp n n1) hh ws := by repeat' (first|exact trivial|(refine And.intro ⟨0,_,rfl,rfl,?_⟩ ?_)|(refine And.intro ⟨1,_,rfl,rfl,?_⟩ ?_)|(refine And.intro ⟨2,_,rfl,rfl,?_⟩ ?_)|(refine And.intro ⟨3,_,rfl,rfl,?_⟩ ?_)|(refine And.intro ⟨4,_,rfl,rfl,?_⟩ ?_)|(refine And.intro ⟨5,_,rfl,rfl,?_⟩ ?_)|(refine And.intro ⟨6,_,rfl,rfl,?_⟩ ?_)|exact RnL.purI inferInstance|exact zX rfl|exact RnV.purI inferInstance|exact RnV.own rfl|exact RnV.optr rfl|exact RnL.nil|refine RnL.cons ?_ ?_|refine RnV.agg ?_|refine RnV.tup ?_)) :
  RW P N all Q md (⟨some d,.call ⟨.value (.func k),l.toArray,tys⟩,ty,pos,af,none⟩ :: rest) ⟨ts,hs,n,z0⟩ :=
 qN mp n1 ws h (avs := avs) ha hd hH0 hk har hM hr hwa hw hN (md' := md') (hmd := hmd) kk
end
theorem aE {G K:Prop}(k:K) (h:Hy K → G := by first|(intro k;(first|refine Hk ?_ | refine P0 ?_);exact k.pf) | fail):G := h ⟨k⟩
theorem Ma:∀ {l:List Tg}{a b:Tg},(l.map (·.id)).Nodup → a ∈ l → b ∈ l → a.id = b.id → a = b
 | [],_,_,_,h,_,_ => by cases h
 | t :: l, a, b, hn, ha, hb, e => by
  rw [List.map_cons,List.nodup_cons] at hn
  rcases List.mem_cons.1 ha with q|ha'
  ·rcases List.mem_cons.1 hb with q' | hb'
   ·rw [q,q']
   ·exact absurd (List.mem_map.2 ⟨b,hb',by rw [← e,q]⟩) hn.1
  ·rcases List.mem_cons.1 hb with q' | hb'
   ·exact absurd (List.mem_map.2 ⟨a,ha',by rw [e,q']⟩) hn.1
   ·exact Ma hn.2 ha' hb' e
theorem uF {stk:List Tg}{t:Tg}(hn:(stk.map (·.id)).Nodup) (h:t ∈ stk):0 ≤ bZ stk t.id ∧ (bZ stk t.id).toNat < stk.length ∧ stk[(bZ stk t.id).toNat]! = t:=by
 have h0 : 0 ≤ bZ stk t.id := by
  apply Classical.byContradiction;intro q
  exact mQ.1 (by omega : bZ stk t.id < 0) t h rfl
 have hb := dW stk t.id
 have hk : (bZ stk t.id).toNat < stk.length := by omega
 exact ⟨h0,hk,Ma hn (aR _ _ hk) h (DV h0)⟩
theorem DK {a b:Tg}{l:List Tg}(h:[a,b].Sublist l):a ∈ l ∧ b ∈ l := ⟨h.subset (by simp),h.subset (by simp)⟩
theorem NS {a b:Tg}{l:List Tg}(hn:(l.map (·.id)).Nodup) (h:[a,b].Sublist l):a.id ≠ b.id:=by
 have := (h.map (·.id)).nodup hn
 simpa using this
theorem Lr {a b:Tg}{l:List Tg}(hn:(l.map (·.id)).Nodup) (hl:0 < l.length) (h:[a,b].Sublist l):b ≠ l[0]!:=by
 cases l with
 | nil => cases h
 | cons t l =>
  intro q
  have e : (t :: l)[0]! = t := rfl
  rw [e] at q
  rw [q] at h
  rw [List.map_cons,List.nodup_cons] at hn
  have ht : t ∉ l := fun q => hn.1 (List.mem_map.2 ⟨t,q,rfl⟩)
  cases h with
  | cons _ h => exact ht (h.subset (by simp))
  | cons_cons _ h => exact ht (h.subset (by simp))
theorem Kc {b:Tg}{l:List Tg}(h:b ∈ l) (hne:b ≠ l[0]!):[l[0]!,b].Sublist l:=by
 cases l with
 | nil => cases h
 | cons t l =>
  have e : (t :: l)[0]! = t := rfl
  rw [e] at hne ⊢
  rcases List.mem_cons.1 h with h|h
  ·exact absurd h hne
  ·exact (List.singleton_sublist.2 h).cons_cons t
theorem Ez {stk:List Tg}{k:Nat}{wr:Bool}(hk:k < stk.length){t:Tg}(h:t ∈ stk) (hn:t ∉ eV stk k wr):[stk[k]!,t].Sublist stk ∧ (wr = false → t.uq = true):=by
 have ht : t ∉ stk.take (k + 1) := fun q => hn (by unfold eV;split;exact q;exact List.mem_append_left _ q)
 have hd : t ∈ stk.drop (k + 1) := by
  rw [← List.take_append_drop (k + 1) stk] at h
  exact (List.mem_append.1 h).resolve_left ht
 refine ⟨?_,fun hw => ?_⟩
 ·have h1 : [stk[k]!].Sublist (stk.take (k + 1)) := List.singleton_sublist.2 (by rw [b6 _ _ hk]; simp)
  have h2 := h1.append (List.singleton_sublist.2 hd)
  rwa [List.take_append_drop] at h2
 ·apply Classical.byContradiction; intro q
  apply hn
  unfold eV
  rw [if_neg (by rw [hw]; decide)]
  exact List.mem_append_right _ (List.mem_filter.2 ⟨hd,by simpa using q⟩)
theorem w4 {stk:List Tg}{k:Nat}{wr:Bool}(hk:k < stk.length){t:Tg}(h:t ∈ eV stk k wr) (hu:wr = false → t.uq = true):t = stk[k]! ∨ [t,stk[k]!].Sublist stk:=by
 have ht : t ∈ stk.take (k + 1) := by
  unfold eV at h
  split at h
  ·exact h
  ·rename_i hw
   rcases List.mem_append.1 h with h|h
   ·exact h
   ·have h1 := (List.mem_filter.1 h).2
    rw [hu (by simpa using hw)] at h1;cases h1
 have e := b6 _ _ hk
 rw [e] at ht
 rcases List.mem_append.1 ht with ht|ht
 ·refine .inr (List.Sublist.trans ?_ (List.take_sublist (k + 1) stk))
  rw [e]
  exact (List.singleton_sublist.2 ht).append (List.Sublist.refl _)
 ·exact .inl (by simpa using ht)
theorem xR {a b t:Tg}{l:List Tg}(h:[a,b].Sublist (l ++ [t])):[a,b].Sublist l ∨ (b = t ∧ a ∈ l):=by
 obtain ⟨x,y,e,hx,hy⟩ := List.sublist_append_iff.1 h
 match x,e with
 | [], e =>
  have : y = [a,b] := by simpa using e.symm
  rw [this] at hy;have := hy.length_le;simp at this
 | [c], e =>
  have e' : a = c ∧ [b] = y := by simpa using e
  rw [← e'.2] at hy
  refine .inr ⟨by simpa using hy.subset (List.mem_singleton_self b),?_⟩
  rw [e'.1]; exact hx.subset (by simp)
 | [c, d], e =>
  have e' : a = c ∧ b = d := by simp at e;exact ⟨e.1,e.2.1⟩
  rw [e'.1,e'.2]; exact .inl hx
 | c :: d :: f :: z,e => simp at e
abbrev Ut (a b : Tg) : Prop := b.uq = true → a.uq = true
structure Sh (N : Int) (c : Cl) : Prop where
 n : c.next ≤ N
 l : (c.stk.length : Int) ≤ c.next
 p : c.stk.Pairwise Ut
def ShM (N : Int) (m : List Cl) : Prop := ∀ c ∈ m,Sh N c
theorem Sh.two {N:Int}{c:Cl}(h:Sh N c){a b:Tg}(hs:[a,b].Sublist c.stk) (hb:b.uq = true):a.uq = true:=by
 have := h.p.sublist hs
 simp only [List.pairwise_cons,List.mem_singleton,forall_eq] at this
 exact this.1 hb
theorem Sh.mono {N N':Int}{c:Cl}(h:Sh N c) (hN:N ≤ N'):Sh N' c := ⟨Int.le_trans h.n hN,h.l,h.p⟩
theorem ShM.mono {N N':Int}{m:List Cl}(h:ShM N m) (hN:N ≤ N'):ShM N' m := fun c hc => (h c hc).mono hN
theorem Sh.tch {N:Int}{c:Cl}(h:Sh N c) (x:Pt) (wr:Bool):Sh N (hZ c x wr):=by
 have hs := tchS_sub (stk := c.stk) (k := (bZ c.stk x.tag).toNat) (wr := wr)
 refine ⟨h.n,?_,h.p.sublist hs⟩
 have h1 := hs.length_le
 have h2 := h.l
 show ((eV c.stk _ wr).length : Int) ≤ c.next
 omega
theorem ShM.set {N:Int}{m:List Cl}(h:ShM N m){k:Nat}{c:Cl}(hc:Sh N c):ShM N (m.set k c) :=
 fun x hx => (List.mem_or_eq_of_mem_set hx).elim (h x) (fun e => e ▸ hc)
theorem ShM.at {N:Int}{m:List Cl}(h:ShM N m){k:Nat}(hk:k < m.length):Sh N m[k]! := h _ (aR _ _ hk)
theorem ShM.tch {N:Int}{m:List Cl}(h:ShM N m) (x:Pt) (wr:Bool):ShM N (cP m x wr):=by
 unfold cP;split
 ·rename_i hk;exact h.set ((h.at (dM hk).2.2).tch x wr)
 ·exact h
theorem ShM.fr {N:Int}{m:List Cl}(h:ShM N m) (x:Pt):ShM N (gO m x):=by
 unfold gO;split
 ·rename_i hk
  have h1 := (h.at (dM hk).2.2).tch x true
  exact h.set ⟨h1.n,h1.l,h1.p⟩
 ·exact h
theorem ShM.wr {N:Int}{m:List Cl}(h:ShM N m) (x:Pt) (v:Int):ShM N (nU m x v):=by
 unfold nU
 by_cases hk : o6 m x v = 0
 ·rw [if_pos hk]
  unfold o6 at hk
  by_cases hv : 0 ≤ v ∧ v ≤ 9
  ·rw [if_pos hv] at hk
   have h1 := (h.at (dM hk).2.2).tch x true
   exact h.set ⟨h1.n,h1.l,h1.p⟩
  ·rw [if_neg hv] at hk;cases hk
 ·rw [if_neg hk]; exact h
theorem ShM.nw {N:Int}{m:List Cl}(h:ShM N m) (hN:1 ≤ N) (v:Int):ShM N (m ++ [nO v]) := fun c hc =>
 (List.mem_append.1 hc).elim (h c) (fun h => by
  rw [List.mem_singleton.1 h]
  exact ⟨hN,by show ((1 : Nat) : Int) ≤ 1;decide,by simp [nO]⟩)
theorem G2 {m:List Cl}{x:Pt}{wr:Bool}(h:aY m x wr = 0):m[x.cell.toNat]!.alive = true ∧ 0 ≤ bZ m[x.cell.toNat]!.stk x.tag ∧ (wr = true → m[x.cell.toNat]!.stk[(bZ m[x.cell.toNat]!.stk x.tag).toNat]!.uq = true):=by
 unfold aY at h
 split at h
 ·cases h
 split at h
 ·cases h
 rename_i ha
 split at h
 ·cases h
 rename_i ht
 split at h
 ·cases h
 rename_i hw
 refine ⟨by simpa using ha,by omega,fun e => ?_⟩
 simpa [e] using hw
theorem ShM.ln {N:Int}{m:List Cl}(h:ShM N m) (x:Pt) (u:Bool):ShM (N + 1) (jI m x u):=by
 unfold jI
 by_cases hk : j7 m x u = 0
 ·rw [if_pos hk]
  have h0 := lC hk
  have hx := dM h0
  have ht := G2 h0
  have hc := (h.at hx.2.2)
  have h1 := hc.tch x u
  have hb := dW m[x.cell.toNat]!.stk x.tag
  refine ShM.set (h.mono (by omega)) (Sh.mk ?_ ?_ ?_)
  ·have := h1.n;show (hZ m[x.cell.toNat]! x u).next + 1 ≤ N + 1;omega
  ·have := h1.l; show (((hZ m[x.cell.toNat]! x u).stk ++ [_]).length : Int) ≤ (hZ m[x.cell.toNat]! x u).next + 1
   rw [List.length_append,List.length_singleton]; omega
  ·show ((hZ m[x.cell.toNat]! x u).stk ++ [(⟨(hZ m[x.cell.toNat]! x u).next, u⟩ : Tg)]).Pairwise Ut
   rw [List.pairwise_append]
   refine ⟨h1.p,by simp,fun a ha b hb' => ?_⟩
   rw [List.mem_singleton.1 hb']
   intro hu
   dsimp only at hu
   subst hu
   have hw := ht.2.2 rfl
   have hkk : (bZ m[x.cell.toNat]!.stk x.tag).toNat < m[x.cell.toNat]!.stk.length := by omega
   have ha' : a ∈ eV m[x.cell.toNat]!.stk (bZ m[x.cell.toNat]!.stk x.tag).toNat true := ha
   rcases w4 hkk ha' (fun q => by cases q) with e|e
   ·rw [e]; exact hw
   ·exact hc.two e hw
 ·rw [if_neg hk]; exact h.mono (by omega)
theorem uP {m:List Cl}{x:Pt}{wr:Bool}(hk:aY m x wr = 0) (c:Nat):(cP m x wr)[c]! = if x.cell.toNat = c then hZ m[c]! x wr else m[c]!:=by
 have h := dM hk
 unfold cP
 rw [if_pos hk,aP]
 by_cases q : x.cell.toNat = c
 ·rw [if_pos ⟨q,by omega⟩,if_pos q,q]
 ·rw [if_neg (fun h => q h.1),if_neg q]
theorem LP {m:List Cl}{x:Pt}(hk:aY m x true = 0) (c:Nat) (hc:x.cell.toNat ≠ c):(gO m x)[c]! = m[c]!:=by
 unfold gO
 rw [if_pos hk,aP,if_neg (fun h => hc h.1)]
theorem Dv {m:List Cl}{x:Pt}{u:Bool}(hk:j7 m x u = 0) (c:Nat):(jI m x u)[c]! = if x.cell.toNat = c then psh (hZ m[c]! x u) u else m[c]!:=by
 have h := dM (lC hk)
 unfold jI
 rw [if_pos hk,aP]
 by_cases q : x.cell.toNat = c
 ·rw [if_pos ⟨q,by omega⟩,if_pos q,q]
 ·rw [if_neg (fun h => q h.1),if_neg q]
theorem IU {m:List Cl}{x:Pt}{v:Int}(hk:o6 m x v = 0):aY m x true = 0:=by
 unfold o6 at hk
 split at hk
 ·exact hk
 ·cases hk
theorem O5 {m:List Cl}{x:Pt}{v:Int}(hk:o6 m x v = 0) (c:Nat):(nU m x v)[c]!.alive = (cP m x true)[c]!.alive ∧ (nU m x v)[c]!.stk = (cP m x true)[c]!.stk:=by
 have h0 := IU hk
 have h := dM h0
 rw [uP h0]
 unfold nU
 rw [if_pos hk,aP]
 by_cases q : x.cell.toNat = c
 ·rw [if_pos ⟨q,by omega⟩,if_pos q,q]; exact ⟨rfl,rfl⟩
 ·rw [if_neg (fun h => q h.1),if_neg q]; exact ⟨rfl,rfl⟩
def iG (ts : List Int) (sl : List Sl) (v : Nat) : Tg := ⟨sl[v]!.ptr.tag,!decide (ts[v]! = 3)⟩
def fU (sl : List Sl) (v : Nat) : Nat := sl[v]!.ptr.cell.toNat
structure RfI (ts : List Int) (P : Nat → Prop) (G : Nat → Nat → Prop) (sl : List Sl) (m : List Cl) : Prop where
 l : ∀ v,v < ts.length → 3 ≤ ts[v]! → sl[v]!.set = true → P v → m[fU sl v]!.alive = true ∧ iG ts sl v ∈ m[fU sl v]!.stk
 c : ∀ v w,v < ts.length → w < ts.length → 3 ≤ ts[v]! → (ts[w]! = 2 ∨ ts[w]! = 4) → sl[v]!.set = true → sl[w]!.set = true → P v → fU sl v = fU sl w → [iG ts sl w,iG ts sl v].Sublist m[fU sl v]!.stk → G v w
section
variable {ts : List Int} {P P' : Nat → Prop} {G : Nat → Nat → Prop} {sl : List Sl} {m m' : List Cl} {N : Int}
theorem RfI.mono (R:RfI ts P G sl m) (h:∀ v,P' v → P v):RfI ts P' G sl m :=
 ⟨fun v h1 h2 h3 h4 => R.l v h1 h2 h3 (h v h4),fun v w h1 h2 h3 h4 h5 h6 h7 => R.c v w h1 h2 h3 h4 h5 h6 (h v h7)⟩
theorem RfI.cong (R:RfI ts P G sl m) (h:∀ c:Nat,m'[c]!.alive = m[c]!.alive ∧ m'[c]!.stk = m[c]!.stk):RfI ts P G sl m':=by
 refine ⟨fun v h1 h2 h3 h4 => ?_,fun v w h1 h2 h3 h4 h5 h6 h7 h8 h9 => ?_⟩
 ·rw [(h _).1,(h _).2]; exact R.l v h1 h2 h3 h4
 ·rw [(h _).2] at h9;exact R.c v w h1 h2 h3 h4 h5 h6 h7 h8 h9
theorem RfI.tch (hT:∀ v,v < ts.length → ts[v]! ≤ 4) (hm:OkM m) (hs:ShM N m) (R:RfI ts P G sl m) (hP:∀ v,P' v → P v){u:Nat}{wr:Bool}(hu:u < ts.length) (h2:2 ≤ ts[u]!) (hset:sl[u]!.set = true)
  (hk : aY m sl[u]!.ptr wr = 0) (hin : iG ts sl u ∈ m[fU sl u]!.stk) (hwr : wr = true → ts[u]! ≠ 3) (hc : ∀ v,P' v → G v u → ¬ (wr = true ∨ ts[v]! = 4)) : RfI ts P' G sl (cP m sl[u]!.ptr wr) := by
 have hx := dM hk
 have hcc := hm.at hx.2.2
 obtain ⟨t1,t2,t3⟩ := uF hcc.d hin
 refine ⟨fun v h1 h2' h3 h4 => ?_,fun v w h1 h2' h3 h4 h5 h6 h7 h8 h9 => ?_⟩
 ·obtain ⟨a1, a2⟩ := R.l v h1 h2' h3 (hP v h4)
  rw [uP hk]
  by_cases q : sl[u]!.ptr.cell.toNat = fU sl v
  ·rw [if_pos q]
   refine ⟨a1,?_⟩
   rw [← q] at a2 ⊢
   apply Classical.byContradiction;intro hn
   have hn' : iG ts sl v ∉ eV m[sl[u]!.ptr.cell.toNat]!.stk (bZ m[sl[u]!.ptr.cell.toNat]!.stk (iG ts sl u).id).toNat wr := hn
   obtain ⟨g1,g2⟩ := Ez t2 a2 hn'
   have t3' : m[sl[u]!.ptr.cell.toNat]!.stk[(bZ m[sl[u]!.ptr.cell.toNat]!.stk (iG ts sl u).id).toNat]! = iG ts sl u := t3
   rw [t3'] at g1
   by_cases q3 : ts[u]! = 3
   ·have hwf : wr = false := by cases wr with | false => rfl | true => exact absurd q3 (hwr rfl)
    have := (hs.at hx.2.2).two g1 (g2 hwf)
    simp [iG,q3] at this
   ·have hb := hT u hu
    have hg := R.c v u h1 hu h2' (by omega) h3 hset (hP v h4) q.symm (by rw [← q]; exact g1)
    refine hc v h4 hg ?_
    cases hw : wr with
    | true => exact .inl rfl
    | false =>
     have h5 := g2 hw
     have hb' := hT v h1
     have : ts[v]! ≠ 3 := by simpa [iG] using h5
     exact .inr (by omega)
  ·rw [if_neg q]; exact ⟨a1,a2⟩
 ·refine R.c v w h1 h2' h3 h4 h5 h6 (hP v h7) h8 (h9.trans ?_)
  rw [uP hk]
  split
  ·exact tchS_sub
  ·exact List.Sublist.refl _
theorem RfI.fr (hd:Hd m) (R:RfI ts P G sl m) (hP:∀ v,P' v → P v) (hf:∀ v,v < ts.length → 3 ≤ ts[v]! → sl[v]!.set = true → 1 ≤ sl[v]!.ptr.tag){u:Nat}(hu:u < ts.length) (h2:ts[u]! = 2) (hset:sl[u]!.set = true)
  (hk : aY m sl[u]!.ptr true = 0) (h0 : sl[u]!.ptr.tag = 0) (hc : ∀ v,P' v → ¬ G v u) : RfI ts P' G sl (gO m sl[u]!.ptr) := by
 have hx := dM hk
 have e0 := hd _ hx.2.2
 have eu : iG ts sl u = ⟨0,true⟩ := by unfold iG;rw [h0,h2]; rfl
 have key : ∀ v, v < ts.length → 3 ≤ ts[v]! → sl[v]!.set = true → P' v → sl[u]!.ptr.cell.toNat ≠ fU sl v := fun v h1 h2' h3 h4 q => by
  obtain ⟨a1,a2⟩ := R.l v h1 h2' h3 (hP v h4)
  have hne : iG ts sl v ≠ m[fU sl v]!.stk[0]! := by
   rw [← q,e0]; intro e
   have e1 : (iG ts sl v).id = 0 := by rw [e]
   have e2 : sl[v]!.ptr.tag = 0 := e1
   have e3 := hf v h1 h2' h3
   omega
  have hs := Kc a2 hne
  refine hc v h4 (R.c v u h1 hu h2' (.inl h2) h3 hset (hP v h4) q.symm ?_)
  rw [eu,← e0,show sl[u]!.ptr.cell.toNat = fU sl v from q]; exact hs
 refine ⟨fun v h1 h2' h3 h4 => ?_,fun v w h1 h2' h3 h4 h5 h6 h7 h8 h9 => ?_⟩
 ·rw [LP hk _ (key v h1 h2' h3 h4)]; exact R.l v h1 h2' h3 (hP v h4)
 ·rw [LP hk _ (key v h1 h3 h5 h7)] at h9;exact R.c v w h1 h2' h3 h4 h5 h6 (hP v h7) h8 h9
theorem RfI.ln {x:Pt}{b:Bool}(hk:j7 m x b = 0) (R:RfI ts P G sl (cP m x b)) (hf:∀ v,v < ts.length → 3 ≤ ts[v]! → sl[v]!.set = true → sl[v]!.ptr.tag < m[fU sl v]!.next):RfI ts P G sl (jI m x b):=by
 have h0 := lC hk
 refine ⟨fun v h1 h2 h3 h4 => ?_,fun v w h1 h2 h3 h4 h5 h6 h7 h8 h9 => ?_⟩
 ·have hr := R.l v h1 h2 h3 h4
  rw [uP h0] at hr
  rw [Dv hk]
  split
  ·rename_i q
   rw [if_pos q] at hr
   exact ⟨hr.1,List.mem_append_left _ hr.2⟩
  ·rename_i q
   rw [if_neg q] at hr;exact hr
 ·refine R.c v w h1 h2 h3 h4 h5 h6 h7 h8 ?_
  rw [Dv hk] at h9
  rw [uP h0]
  split at h9
  ·rename_i q
   rw [if_pos q]
   have h9' : [iG ts sl w,iG ts sl v].Sublist ((hZ m[fU sl v]! x b).stk ++ [⟨m[fU sl v]!.next,b⟩]) := h9
   rcases xR h9' with e | ⟨e,_⟩
   ·exact e
   ·exfalso
    have e1 : (iG ts sl v).id = m[fU sl v]!.next := by rw [e]
    have e2 : sl[v]!.ptr.tag = m[fU sl v]!.next := e1
    have := hf v h1 h3 h5
    omega
  ·rename_i q
   rw [if_neg q]; exact h9
theorem RfI.nw (R:RfI ts P G sl m) (hf:∀ v,v < ts.length → 3 ≤ ts[v]! → sl[v]!.set = true → fU sl v < m.length) (z:Cl):RfI ts P G sl (m ++ [z]):=by
 refine ⟨fun v h1 h2 h3 h4 => ?_,fun v w h1 h2 h3 h4 h5 h6 h7 h8 h9 => ?_⟩
 ·rw [nS (hf v h1 h2 h3)]; exact R.l v h1 h2 h3 h4
 ·rw [nS (hf v h1 h3 h5)] at h9;exact R.c v w h1 h2 h3 h4 h5 h6 h7 h8 h9
end
def Ac (ts : List Int) (pts : List Pnt) (a w : Nat) (wr : Bool) : Prop :=
 ((pts[a]!.op = 4 ∨ pts[a]!.op = 6) ∧ pts[a]!.y = (w : Int) ∧ wr = false) ∨ (pts[a]!.op = 5 ∧ pts[a]!.y = (w : Int) ∧ wr = true) ∨ ((pts[a]!.op = 7 ∨ pts[a]!.op = 8) ∧ pts[a]!.x = (w : Int) ∧ wr = true) ∨
 (pts[a]!.op = 3 ∧ vM ts[w]! = true ∧ pts[a]!.y = (w : Int) ∧ wr = true) ∨ (aL pts[a]! = (w : Int) ∧ ts[w]! = 2 ∧ Mb ts pts (a,w) ∧ wr = true)
def Ln (ts : List Int) (pts : List Pnt) (a v w : Nat) : Prop := ∃ L,Dy ts pts (a,v,L) ∧ Jr ts pts (a,L) ∧ pts[L]!.y = (w : Int) ∧ (ts[v]! = 4 → pts[L]!.op = 5)
def Kp (ts : List Int) (pts : List Pnt) (a v : Nat) : Prop := Lv ts pts a v ∧ aL pts[a]! ≠ (v : Int) ∧ aO ts pts[a]! v ≠ 2
def Cf (ts : List Int) (pts : List Pnt) (a L : Nat) : Prop := ∃ v w wr,Kp ts pts a v ∧ Ac ts pts a w wr ∧ Dy ts pts (a,v,L) ∧ Jr ts pts (a,L) ∧ pts[L]!.y = (w : Int) ∧ (wr = true ∨ pts[L]!.op = 5)
structure Bs (ts : List Int) (N : Int) (s : Mc) : Prop where
 w : Own ts s none
 i : ∀ v,v < ts.length → ts[v]! = 1 → 0 ≤ s.slots[v]!.num ∧ s.slots[v]!.num ≤ 9
 sm : ShM N s.cells
 f : ∀ v,v < ts.length → 3 ≤ ts[v]! → s.slots[v]!.set = true → 0 ≤ s.slots[v]!.ptr.cell ∧ s.slots[v]!.ptr.cell < s.cells.length ∧ 1 ≤ s.slots[v]!.ptr.tag ∧ s.slots[v]!.ptr.tag < s.cells[fU s.slots v]!.next
 d : ∀ v u,v < ts.length → u < ts.length → ts[v]! = 4 → ts[u]! = 4 → s.slots[v]!.set = true → s.slots[u]!.set = true → fU s.slots v = fU s.slots u → s.slots[v]!.ptr.tag = s.slots[u]!.ptr.tag → v = u
section
variable {ts : List Int} {pts : List Pnt} {N : Int} {a : Nat} {s : Mc}
theorem Kp.nd (w:WG ts pts){v:Nat}(h:Kp ts pts a v):Nd ts pts (a,v):=by
 obtain ⟨k,e,hk⟩ := h.1
 exact .step hk ⟨rfl,e,h.2.1⟩
theorem qX (hC:∀ L,¬ Cf ts pts a L){u:Nat}{wr:Bool}(hA:Ac ts pts a u wr):∀ v,Kp ts pts a v → Ln ts pts a v u → ¬ (wr = true ∨ ts[v]! = 4):=by
 rintro v hv ⟨L,h1,h2,h3,h4⟩ h
 exact hC L ⟨v,u,wr,hv,hA,h1,h2,h3,h.elim .inl (fun q => .inr (h4 q))⟩
theorem RfI.use (w:WG ts pts) (B:Bs ts N s) (R:RfI ts (fun v => Nd ts pts (a,v)) (Ln ts pts a) s.slots s.cells) (ha:a < pts.length) (hu:b7 ts s pts[a]! = false){u:Nat}(hul:u < ts.length) (h2:2 ≤ ts[u]!) (huse:aO ts pts[a]! u ≠ 0) :
  s.slots[u]!.set = true ∧ 0 ≤ s.slots[u]!.ptr.cell ∧ s.slots[u]!.ptr.cell < s.cells.length ∧ s.cells[fU s.slots u]!.alive = true ∧ iG ts s.slots u ∈ s.cells[fU s.slots u]!.stk := by
 have hset := gX hu hul huse
 by_cases q : ts[u]! = 2
 ·obtain ⟨b1, b2, b3, b4⟩ := B.w.o u hul q hset
  refine ⟨hset,b1,b2,b4,?_⟩
  have hc : fU s.slots u < s.cells.length := by unfold fU;omega
  have h0 := B.w.h _ hc
  have hl := (B.w.k.m.at hc).l
  have e : iG ts s.slots u = s.cells[fU s.slots u]!.stk[0]! := by rw [h0]; unfold iG;rw [b3,q]; rfl
  rw [e]; exact aR _ _ (by omega)
 ·obtain ⟨f1, f2, _⟩ := B.f u hul (by omega) hset
  obtain ⟨l1,l2⟩ := R.l u hul (by omega) hset (.base ⟨ha,hul,huse⟩)
  exact ⟨hset,f1,f2,l1,l2⟩
theorem N5 {m:List Cl}(hm:OkM m){x:Pt}{b:Bool}{wr:Bool}(h1:0 ≤ x.cell ∧ x.cell < m.length) (h2:m[x.cell.toNat]!.alive = true) (h3:(⟨x.tag,b⟩:Tg) ∈ m[x.cell.toNat]!.stk) (hw:wr = true → b = true):aY m x wr = 0:=by
 have hc := hm.at (k := x.cell.toNat) (by omega)
 obtain ⟨t1,t2,t3⟩ := uF hc.d h3
 dsimp only at t1 t3
 unfold aY
 rw [if_neg (fun q => q h1),if_neg (by rw [h2]; decide),if_neg (by omega),if_neg]
 rintro ⟨e1,e2⟩
 rw [t3] at e2
 dsimp only at e2
 rw [hw e1] at e2;cases e2
theorem RfI.code (w:WG ts pts) (B:Bs ts N s) (R:RfI ts (fun v => Nd ts pts (a,v)) (Ln ts pts a) s.slots s.cells) (ha:a < pts.length) (hu:b7 ts s pts[a]! = false){u:Nat}(hul:u < ts.length) (h2:2 ≤ ts[u]!) (huse:aO ts pts[a]! u ≠ 0){wr:Bool}(hw:wr = true → ts[u]! ≠ 3):aY s.cells s.slots[u]!.ptr wr = 0:=by
 obtain ⟨h3,h4,h5,h6,h7⟩ := R.use w B ha hu hul h2 huse
 exact N5 B.w.k.m ⟨h4,h5⟩ h6 h7 (fun e => by have := hw e;simpa using this)
end
section
variable {ts : List Int} {pts : List Pnt} {N : Int} {a k : Nat} {s : Mc}
theorem M9 {m:List Cl}(h:OkM m) (c:Nat):(m[c]!.stk.map (·.id)).Nodup:=by
 by_cases q : c < m.length
 ·exact (h.at q).d
 ·rw [getElem!_neg m c q]; exact List.nodup_nil
theorem Ln.step (he:cR pts a k){v w:Nat}(h:Ln ts pts a v w) (hv:aL pts[a]! ≠ (v:Int)) (hv2:aO ts pts[a]! v ≠ 2) (hw:aL pts[a]! ≠ (w:Int)) (hw2:aO ts pts[a]! w ≠ 2):Ln ts pts k v w:=by
 obtain ⟨L,h1,h2,h3,h4⟩ := h
 refine ⟨L,.step h1 ⟨rfl,he,.inl ⟨hv,rfl,hv2⟩⟩,.step h2 ⟨rfl,he,?_,?_⟩,h3,h4⟩
 ·rw [h3]; exact hw2
 ·rw [h3]; exact hw
theorem RfI.fin (he:cR pts a k){sl sl':List Sl}{m':List Cl}{y:Sl}(hm:OkM m') (hs:∀ v,v < ts.length → sl'[v]! = if aL pts[a]! = (v:Int) then y else if aO ts pts[a]! v = 2 then fZ else sl[v]!)
  (R : RfI ts (Kp ts pts a) (Ln ts pts a) sl m')
  (hX : ∀ v : Nat,aL pts[a]! = (v : Int) → v < ts.length → 3 ≤ ts[v]! → m'[fU sl' v]!.alive = true ∧ iG ts sl' v ∈ m'[fU sl' v]!.stk)
  (hXw : ∀ v w : Nat,aL pts[a]! = (v : Int) → v < ts.length → w < ts.length → 3 ≤ ts[v]! → (ts[w]! = 2 ∨ ts[w]! = 4) → aL pts[a]! ≠ (w : Int) → aO ts pts[a]! w ≠ 2 → sl[w]!.set = true → sl'[w]! = sl[w]! → fU sl' v = fU sl' w → [iG ts sl' w,iG ts sl' v].Sublist m'[fU sl' v]!.stk → Ln ts pts k v w)
  (hvX : ∀ v w : Nat,aL pts[a]! = (w : Int) → v < ts.length → w < ts.length → 3 ≤ ts[v]! → (ts[w]! = 2 ∨ ts[w]! = 4) → Kp ts pts a v → sl[v]!.set = true → sl'[v]! = sl[v]! → fU sl' v = fU sl' w → ¬ [iG ts sl' w,iG ts sl' v].Sublist m'[fU sl' v]!.stk) :
  RfI ts (fun v => Nd ts pts (k,v)) (Ln ts pts k) sl' m' := by
 have old : ∀ v, v < ts.length → sl'[v]!.set = true → aL pts[a]! ≠ (v : Int) → aO ts pts[a]! v ≠ 2 ∧ sl'[v]! = sl[v]! := fun v hv h1 h2 => by
  have e := hs v hv
  rw [if_neg h2] at e
  by_cases q : aO ts pts[a]! v = 2
  ·rw [if_pos q] at e;rw [e] at h1;cases h1
  ·rw [if_neg q] at e;exact ⟨q,e⟩
 refine ⟨fun v h1 h2 h3 h4 => ?_,fun v w h1 h2 h3 h4 h5 h6 h7 h8 h9 => ?_⟩
 ·by_cases q : aL pts[a]! = (v : Int)
  ·exact hX v q h1 h2
  ·obtain ⟨q2, e⟩ := old v h1 h3 q
   have := R.l v h1 h2 (by rw [← e]; exact h3) ⟨⟨k,he,h4⟩,q,q2⟩
   unfold fU iG at this ⊢
   rw [e]; exact this
 ·by_cases q : aL pts[a]! = (v : Int)
  ·by_cases q' : aL pts[a]! = (w : Int)
   ·exfalso
    have e : v = w := by omega
    subst e
    exact NS (M9 hm _) h9 rfl
   ·obtain ⟨q2, e⟩ := old w h2 h6 q'
    exact hXw v w q h1 h2 h3 h4 q' q2 (by rw [← e]; exact h6) e h8 h9
  ·obtain ⟨q2, e⟩ := old v h1 h5 q
   have hk : Kp ts pts a v := ⟨⟨k,he,h7⟩,q,q2⟩
   by_cases q' : aL pts[a]! = (w : Int)
   ·exact absurd h9 (hvX v w q' h1 h2 h3 h4 hk (by rw [← e]; exact h5) e h8)
   ·obtain ⟨q3, e'⟩ := old w h2 h6 q'
    refine Ln.step he (R.c v w h1 h2 h3 h4 (by rw [← e]; exact h5) (by rw [← e']; exact h6) hk ?_ ?_) q q2 q' q3
    ·unfold fU at h8 ⊢; rw [e,e'] at h8;exact h8
    ·unfold fU iG at h9 ⊢; rw [e,e'] at h9;exact h9
theorem RfI.fin1 (he:cR pts a k){sl sl':List Sl}{m':List Cl}{y:Sl}(hm:OkM m') (hs:∀ v,v < ts.length → sl'[v]! = if aL pts[a]! = (v:Int) then y else if aO ts pts[a]! v = 2 then fZ else sl[v]!)
  (R : RfI ts (Kp ts pts a) (Ln ts pts a) sl m') (h1 : ∀ v : Nat,aL pts[a]! = (v : Int) → v < ts.length → ts[v]! = 1) : RfI ts (fun v => Nd ts pts (k,v)) (Ln ts pts k) sl' m' :=
 RfI.fin he hm hs R (fun v e hv h3 => by have := h1 v e hv;omega) (fun v w e hv _ h3 => by have := h1 v e hv;omega) (fun v w e _ hw _ h3 => by have := h1 w e hw;omega)
theorem pJ (ts:List Int) (s:Mc) (v:Nat) (x:Sl):(bH ts s v x).1.cells = if ts[v]! = 2 ∧ s.slots[v]!.set = true then gO s.cells s.slots[v]!.ptr else s.cells:=by
 unfold bH;split <;> rfl
theorem RfI.put (V:Vs ts pts a s) (B:Bs ts N s){m:List Cl}(hm:OkM m) (hd:Hd m) (R:RfI ts (Kp ts pts a) (Ln ts pts a) s.slots m) (hl:s.cells.length ≤ m.length) (hal:∀ c,c < s.cells.length → m[c]!.alive = s.cells[c]!.alive) (hC:∀ L,¬ Cf ts pts a L){X:Nat}(hX:X < ts.length) (hset:aL pts[a]! = (X:Int)) :
  RfI ts (Kp ts pts a) (Ln ts pts a) s.slots (if ts[X]! = 2 ∧ s.slots[X]!.set = true then gO m s.slots[X]!.ptr else m) := by
 split
 ·rename_i q
  obtain ⟨b1,b2,b3,b4⟩ := B.w.o X hX q.1 q.2
  refine R.fr hd (fun _ h => h) (fun v h1 h2 h3 => (B.f v h1 h2 h3).2.2.1) hX q.1 q.2 (Hq hm hd ⟨b1,by omega⟩ b3 ?_ true) b3 fun v hv hg => ?_
  ·rw [hal _ (by omega)]; exact b4
  ·exact qX hC (.inr (.inr (.inr (.inr ⟨hset,q.1,V.m X hX q.2,rfl⟩)))) v hv hg (.inl rfl)
 ·exact R
end
section
variable {ts : List Int} {pts : List Pnt} {N : Int} {a k : Nat} {s : Mc}
theorem nQ {x:Pnt}(h:1 ≤ x.op ∧ x.op ≤ 6):aL x = x.x := by unfold aL;rw [if_pos h]
theorem IE {x:Pnt}(h:7 ≤ x.op):aL x = -1 := by unfold aL;rw [if_neg (by omega)]
theorem O7 {c:Int}(h:jX c = -1):c = 0:=by
 apply Classical.byContradiction;intro q
 unfold jX at h;rw [if_neg q] at h
 rcases oT c with e|e <;> (rw [e] at h;cases h)
theorem sT {c:Int}(h:dY c = -1):False := by rcases oT c with e | e <;> (rw [e] at h;cases h)
theorem rY {x:Pnt}(h:x.op = 4 ∨ x.op = 5 ∨ x.op = 6){v:Nat}(hv:(v:Int) = x.y):aO ts x v ≠ 0:=by
 unfold aO;rw [if_neg (by omega),if_pos h,if_pos hv]; decide
theorem I5 {x:Pnt}(h:x.op = 3){v:Nat}(hv:(v:Int) = x.y):aO ts x v ≠ 0:=by
 unfold aO;rw [if_pos h,if_pos hv]; split <;> decide
theorem NN {x:Pnt}(h:x.op = 3){v:Nat}(hv:(v:Int) = x.y) (ht:ts[v]! = 2 ∨ ts[v]! = 4):aO ts x v = 2:=by
 unfold aO;rw [if_pos h,if_pos hv]
 have e : (v : Int).toNat = v := by omega
 rw [e,if_pos ht]
theorem LZ {x:Pnt}(h:x.op = 7){v:Nat}(hv:(v:Int) = x.x):aO ts x v ≠ 0:=by
 unfold aO;rw [if_neg (by omega),if_neg (by omega),if_pos h,if_pos hv]; decide
theorem LX {x:Pnt}(h:x.op = 8){v:Nat}(hv:(v:Int) = x.x):aO ts x v ≠ 0:=by
 unfold aO;rw [if_neg (by omega),if_neg (by omega),if_neg (by omega),if_pos h,if_pos hv]; decide
theorem RfI.loan (w:WG ts pts) (A:WA ts pts) (he:cR pts a k) (B:Bs ts N s) (R:RfI ts (fun v => Nd ts pts (a,v)) (Ln ts pts a) s.slots s.cells) (hC:∀ L,¬ Cf ts pts a L) (hu:b7 ts s pts[a]! = false)
  {wr : Bool} (h4 : pts[a]!.op = 4 ∧ wr = false ∨ pts[a]!.op = 5 ∧ wr = true) {sl' : List Sl} {y : Sl} (hs : ∀ v,v < ts.length → sl'[v]! = if aL pts[a]! = (v : Int) then y else if aO ts pts[a]! v = 2 then fZ else s.slots[v]!)
  (hk : j7 s.cells s.slots[pts[a]!.y.toNat]!.ptr wr = 0) (hy : y.ptr = oH s.cells s.slots[pts[a]!.y.toNat]!.ptr wr) :
  RfI ts (fun v => Nd ts pts (k,v)) (Ln ts pts k) sl' (jI s.cells s.slots[pts[a]!.y.toNat]!.ptr wr) := by
 have ha := he.1
 have hT : ∀ v,v < ts.length → ts[v]! ≤ 4 := fun v hv => (w.ty v hv).2
 have PA := A.a a ha
 have hx := w.x a ha
 have hyb := w.y a ha
 have hyl : pts[a]!.y.toNat < ts.length := by have := hyb.2 (by omega) (by omega);omega
 have hyn : ((pts[a]!.y.toNat : Nat) : Int) = pts[a]!.y := by omega
 have hxn : ((pts[a]!.x.toNat : Nat) : Int) = pts[a]!.x := by omega
 have hst := nQ (x := pts[a]!) (by omega)
 have hty : 2 ≤ ts[pts[a]!.y.toNat]! := by
  rcases h4 with ⟨h,_⟩ | ⟨h,_⟩
  ·exact (PA.t4 h).2.2
  ·have := (PA.t5 h).2.2;omega
 have hne : pts[a]!.x ≠ pts[a]!.y := by
  rcases h4 with ⟨h,_⟩ | ⟨h,_⟩
  ·exact (PA.t4 h).2.1
  ·exact (PA.t5 h).2.1
 have huse : aO ts pts[a]! (pts[a]!.y.toNat : Nat) ≠ 0 := rY (by omega) hyn
 obtain ⟨q1,q2,q3,q4,q5⟩ := R.use w B ha hu hyl hty huse
 have hwr : wr = true → ts[pts[a]!.y.toNat]! ≠ 3 := fun e => by
  rcases h4 with ⟨_,h⟩ | ⟨h,_⟩
  ·rw [e] at h;cases h
  ·have := (PA.t5 h).2.2;omega
 have hAc : Ac ts pts a pts[a]!.y.toNat wr := by
  rcases h4 with ⟨h,e⟩ | ⟨h,e⟩
  ·exact .inl ⟨.inl h,hyn.symm,e⟩
  ·exact .inr (.inl ⟨h,hyn.symm,e⟩)
 have htx : ∀ v : Nat, aL pts[a]! = (v : Int) → ts[v]! = 3 ∧ wr = false ∨ ts[v]! = 4 ∧ wr = true ∧ pts[a]!.op = 5 := fun v e => by
  have e' : pts[a]!.x.toNat = v := by rw [← hst,e]; omega
  rcases h4 with ⟨h,e2⟩ | ⟨h,e2⟩
  ·have := (PA.t4 h).1;rw [e'] at this;exact .inl ⟨this,e2⟩
  ·have := (PA.t5 h).1;rw [e'] at this;exact .inr ⟨this,e2,h⟩
 have hnt : ∀ v : Nat, aO ts pts[a]! v ≠ 2 := fun v => by
  unfold aO;rw [if_neg (by omega),if_pos (by omega)]; split <;> decide
 generalize hY : pts[a]!.y.toNat = Y at *
 have h0 := lC hk
 have hx0 := dM h0
 have hcY := B.w.k.m.at hx0.2.2
 obtain ⟨t1,t2,t3⟩ := uF hcY.d q5
 have R1 := R.tch hT B.w.k.m B.sm (fun v (h : Kp ts pts a v) => h.nd w) hyl hty q1 h0 q5 hwr (qX hC hAc)
 have R2 := R1.ln hk (fun v h1 h2 h3 => (B.f v h1 h2 h3).2.2.2)
 have hyp : y.ptr = ⟨s.slots[Y]!.ptr.cell,s.cells[s.slots[Y]!.ptr.cell.toNat]!.next⟩ := by rw [hy]; unfold oH;rw [if_pos hk]
 have new : ∀ v : Nat, aL pts[a]! = (v : Int) → v < ts.length → fU sl' v = s.slots[Y]!.ptr.cell.toNat ∧ iG ts sl' v = ⟨s.cells[s.slots[Y]!.ptr.cell.toNat]!.next, wr⟩ := fun v e hv => by
  have e1 := hs v hv
  rw [if_pos e] at e1
  unfold fU iG
  rw [e1,hyp]
  refine ⟨rfl,?_⟩
  rcases htx v e with ⟨h,e2⟩ | ⟨h,e2,_⟩ <;> (rw [h,e2]; rfl)
 have frs : ∀ t ∈ (hZ s.cells[s.slots[Y]!.ptr.cell.toNat]! s.slots[Y]!.ptr wr).stk,t.id < s.cells[s.slots[Y]!.ptr.cell.toNat]!.next := fun t ht => (hcY.i t (tchS_sub.subset ht)).2
 have hat := Dv hk s.slots[Y]!.ptr.cell.toNat
 rw [if_pos rfl] at hat
 refine RfI.fin he (B.w.k.m.ln _ _) hs R2 (fun v e hv h3 => ?_) (fun v u e hv hul h3 hut hu1 hu2 hu3 hu4 hce hsub => ?_) (fun v u e hv hul h3 hut hkp hv3 hv4 hce hsub => ?_)
 ·obtain ⟨n1, n2⟩ := new v e hv
  rw [n1,n2,hat]
  exact ⟨q4,List.mem_append_right _ (List.mem_singleton_self _)⟩
 ·obtain ⟨n1, n2⟩ := new v e hv
  rw [n1,n2,hat] at hsub
  have hceu : fU s.slots u = s.slots[Y]!.ptr.cell.toNat := by rw [← n1,hce]; unfold fU;rw [hu4]
  have htu : iG ts sl' u = iG ts s.slots u := by unfold iG;rw [hu4]
  rw [htu] at hsub
  have hsub' : [iG ts s.slots u,⟨s.cells[s.slots[Y]!.ptr.cell.toNat]!.next,wr⟩].Sublist ((hZ s.cells[s.slots[Y]!.ptr.cell.toNat]! s.slots[Y]!.ptr wr).stk ++ [⟨s.cells[s.slots[Y]!.ptr.cell.toNat]!.next,wr⟩]) := hsub
  rcases xR hsub' with e2 | ⟨_,hin⟩
  ·have := frs _ (DK e2).2
   dsimp only at this;omega
  ·have huq : (iG ts s.slots u).uq = true := by
    unfold iG;dsimp only
    rcases hut with h|h <;> (rw [h]; rfl)
   have t3' : s.cells[s.slots[Y]!.ptr.cell.toNat]!.stk[(bZ s.cells[s.slots[Y]!.ptr.cell.toNat]!.stk s.slots[Y]!.ptr.tag).toNat]! = iG ts s.slots Y := t3
   rcases w4 t2 hin (fun _ => huq) with e2|e2
   ·rw [t3] at e2
    have eid : s.slots[u]!.ptr.tag = s.slots[Y]!.ptr.tag := by
     have : (iG ts s.slots u).id = (iG ts s.slots Y).id := by rw [e2]
     exact this
    have hY3 : ts[Y]! ≠ 3 := fun q => by
     rw [e2] at huq
     unfold iG at huq;dsimp only at huq;rw [q] at huq;cases huq
    have hTY := hT Y hyl
    have euY : u = Y := by
     by_cases qY : ts[Y]! = 2
     ·obtain ⟨b1, b2, b3, b4⟩ := B.w.o Y hyl qY q1
      rcases hut with hut|hut
      ·obtain ⟨c1, c2, c3, c4⟩ := B.w.o u hul hut hu3
       exact B.w.d u Y hul hyl hut qY hu3 q1 (by unfold fU at hceu;omega)
      ·have := (B.f u hul (by omega) hu3).2.2.1;omega
     ·have hY4 : ts[Y]! = 4 := by omega
      rcases hut with hut|hut
      ·obtain ⟨c1, c2, c3, c4⟩ := B.w.o u hul hut hu3
       have := (B.f Y hyl (by omega) q1).2.2.1;omega
      ·exact B.d u Y hul hyl hut hY4 hu3 q1 hceu eid
    subst euY
    have hln : bT pts[a]! = true := by unfold bT;rcases h4 with ⟨h,_⟩ | ⟨h,_⟩ <;> (rw [h]; rfl)
    refine ⟨a,.base ⟨he,hln,e⟩,.base ⟨he,hln⟩,hyn.symm,fun h => ?_⟩
    rcases htx v e with ⟨h5,_⟩ | ⟨_,_,h5⟩
    ·omega
    ·exact h5
   ·rw [t3] at e2
    have hY2 : ts[Y]! ≠ 2 := fun q => by
     obtain ⟨b1,b2,b3,b4⟩ := B.w.o Y hyl q q1
     have e0 := B.w.h _ hx0.2.2
     refine Lr hcY.d (by have := hcY.l;omega) e2 ?_
     rw [e0]; unfold iG;rw [b3,q]; rfl
    obtain ⟨L,l1,l2,l3,l4⟩ := R.c Y u hyl hul (by omega) hut q1 hu3 (.base ⟨ha,hyl,huse⟩) hceu.symm e2
    have hTY := hT Y hyl
    refine ⟨L,.step l1 ⟨rfl,he,.inr ⟨e,hyn,.inl ⟨?_,?_⟩⟩⟩,.step l2 ⟨rfl,he,?_,?_⟩,l3,fun h => ?_⟩
    ·unfold bT;rcases h4 with ⟨h,_⟩ | ⟨h,_⟩ <;> (rw [h]; rfl)
    ·show dV ts[Y]! = true
     unfold dV;rw [Bool.or_eq_true,decide_eq_true_eq,decide_eq_true_eq]; omega
    ·rw [l3]; exact hu2
    ·rw [l3]; exact hu1
    ·refine l4 ?_
     rcases htx v e with ⟨h5,_⟩ | ⟨_,h5,_⟩
     ·omega
     ·have := hwr h5;omega
 ·obtain ⟨n1, n2⟩ := new u e hul
  rw [hce,n1,n2,hat] at hsub
  have hsub' : [⟨s.cells[s.slots[Y]!.ptr.cell.toNat]!.next,wr⟩,iG ts sl' v].Sublist ((hZ s.cells[s.slots[Y]!.ptr.cell.toNat]! s.slots[Y]!.ptr wr).stk ++ [⟨s.cells[s.slots[Y]!.ptr.cell.toNat]!.next,wr⟩]) := hsub
  rcases xR hsub' with e2 | ⟨_,hin⟩
  ·have := frs _ (DK e2).1
   dsimp only at this;omega
  ·have := frs _ hin
   dsimp only at this;omega
end
end Go.AL
