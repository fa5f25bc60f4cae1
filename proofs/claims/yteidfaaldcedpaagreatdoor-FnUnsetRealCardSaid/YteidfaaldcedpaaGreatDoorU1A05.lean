/-
 A part of the proofs over this program: rules and contracts of its functions (the rules).
-/
import Derived.Test.YteidfaaldcedpaaGreatDoorU1A04
set_option linter.unusedVariables false
set_option linter.unusedSimpArgs false
namespace Go.AL
open Go.RowKit
def kC (ts : List Int) (x : Pnt) (m : Bool) : List Acc :=
 (if x.op = 4 ∨ x.op = 6 then [⟨x.y,false⟩] else if x.op = 5 then [⟨x.y,true⟩] else if x.op = 7 ∨ x.op = 8 then [⟨x.x,true⟩] else if x.op = 3 ∧ wZ ts[x.y.toNat]! = true then [⟨x.y,true⟩] else []) ++
 (if 0 ≤ aQ x ∧ ts[(aQ x).toNat]! = 2 ∧ m = true then [⟨aQ x,true⟩] else [])
def Qy (f : List Nat) (L : List Int) (a : Nat) : Nat := L.foldl (fun a v => a ||| f[v.toNat]!) a
def Be (ts : List Int) (x : Pnt) (live : Nat) (f : List Nat) : Nat := Qy f (a7 (oJ live (wS ts x [2] ||| jD x))) 0
theorem kP (f:List Nat) (l:Nat):∀ (L:List Int) (a:Nat),(Qy f L a).testBit l = true ↔ a.testBit l = true ∨ ∃ v ∈ L,f[v.toNat]!.testBit l = true
 | [],a => by simp [Qy]
 | v :: L, a => by
  show (Qy f L (a ||| f[v.toNat]!)).testBit l = true ↔ _
  rw [kP f l L,Nat.testBit_or,Bool.or_eq_true]
  simp only [List.mem_cons,exists_eq_or_imp]
  grind
def LP (pts : List Pnt) (wr : Bool) (L : List Int) (a : Nat) : Nat := L.foldl (fun a l => if wr = true ∨ pts[l.toNat]!.op = 5 then a ||| 2 ^ l.toNat else a) a
def Ll (pts : List Pnt) (loans : Nat) (acs : List Acc) (a : Nat) : Nat := acs.foldl (fun a c => LP pts c.write (a7 (loans &&& sY pts (2 ^ c.var.toNat))) a) a
theorem sU (pts:List Pnt) (wr:Bool) (l:Nat):∀ (L:List Int) (a:Nat),(LP pts wr L a).testBit l = true ↔ a.testBit l = true ∨ ((∃ z ∈ L,z.toNat = l) ∧ (wr = true ∨ pts[l]!.op = 5))
 | [],a => by simp [LP]
 | z :: L, a => by
  show (LP pts wr L (if wr = true ∨ pts[z.toNat]!.op = 5 then a ||| 2 ^ z.toNat else a)).testBit l = true ↔ _
  rw [sU pts wr l L]
  have h2 : ∀ b : Nat, (a ||| 2 ^ b).testBit l = true ↔ a.testBit l = true ∨ b = l := by
   intro b
   rw [Nat.testBit_or,Bool.or_eq_true,Nat.testBit_two_pow,decide_eq_true_eq]
  split
  ·rename_i h
   rw [h2]
   simp only [List.mem_cons,exists_eq_or_imp]
   constructor
   ·rintro ((h1 | rfl) | ⟨h1, h3⟩)
    ·exact .inl h1
    ·exact .inr ⟨.inl rfl,h⟩
    ·exact .inr ⟨.inr h1,h3⟩
   ·rintro (h1 | ⟨rfl | h1, h3⟩)
    ·exact .inl (.inl h1)
    ·exact .inl (.inr rfl)
    ·exact .inr ⟨h1,h3⟩
  ·rename_i h
   simp only [List.mem_cons,exists_eq_or_imp]
   constructor
   ·rintro (h1 | ⟨h1, h3⟩)
    ·exact .inl h1
    ·exact .inr ⟨.inr h1,h3⟩
   ·rintro (h1 | ⟨rfl | h1, h3⟩)
    ·exact .inl h1
    ·exact absurd h3 h
    ·exact .inr ⟨h1,h3⟩
theorem mV (pts:List Pnt) (loans l:Nat) (hl:Sm loans):∀ (acs:List Acc) (a:Nat),(Ll pts loans acs a).testBit l = true ↔ a.testBit l = true ∨ ∃ c ∈ acs,loans.testBit l = true ∧ (sY pts (2 ^ c.var.toNat)).testBit l = true ∧ (c.write = true ∨ pts[l]!.op = 5)
 | [],a => by simp [Ll]
 | c :: acs, a => by
  show (Ll pts loans acs (LP pts c.write (a7 (loans &&& sY pts (2 ^ c.var.toNat))) a)).testBit l = true ↔ _
  rw [mV pts loans l hl acs,sU]
  have h2 : (∃ z ∈ a7 (loans &&& sY pts (2 ^ c.var.toNat)), z.toNat = l) ↔ loans.testBit l = true ∧ (sY pts (2 ^ c.var.toNat)).testBit l = true := by
   constructor
   ·rintro ⟨z, hz, rfl⟩
    obtain ⟨v,h1,h3,rfl⟩ := cJ.1 hz
    rw [Nat.testBit_and,Bool.and_eq_true] at h3;exact h3
   ·intro h
    have : l < 62 := cT hl.pf h.1
    exact ⟨(l : Int),cJ.2 ⟨l,this,by rw [Nat.testBit_and,h.1,h.2]; rfl,rfl⟩,rfl⟩
  rw [h2]
  simp only [List.mem_cons,exists_eq_or_imp]
  grind
theorem Bh (ts:List Int) (x:Pnt) (m:Bool):(kC ts x m).length ≤ 2:=by
 unfold kC;rw [List.length_append]
 have h1 : ∀ (c : Prop) [Decidable c] (a b : List Acc), a.length ≤ 1 → b.length ≤ 1 → (if c then a else b).length ≤ 1 := by
  intro c _ a b h h2;split <;> assumption
 have a1 := h1 (x.op = 3 ∧ wZ ts[x.y.toNat]! = true) [⟨x.y,true⟩] [] (by simp) (by simp)
 have a2 := h1 (x.op = 7 ∨ x.op = 8) [⟨x.x,true⟩] _ (by simp) a1
 have a3 := h1 (x.op = 5) [⟨x.y,true⟩] _ (by simp) a2
 have a4 := h1 (x.op = 4 ∨ x.op = 6) [⟨x.y,false⟩] _ (by simp) a3
 have a5 := h1 (0 ≤ aQ x ∧ ts[(aQ x).toNat]! = 2 ∧ m = true) [⟨aQ x,true⟩] [] (by simp) (by simp)
 omega
theorem EF {ts:List Int}{pts:List Pnt}(m:Bool) (w:WG ts pts){i:Nat}(hi:i < pts.length):∀ c ∈ kC ts pts[i]! m,0 ≤ c.var ∧ c.var < ts.length:=by
 have hst := w.set i hi
 have hx := w.x i hi
 have hy := w.y i hi
 intro c hc
 unfold kC at hc
 rw [List.mem_append] at hc
 rcases hc with hc|hc
 ·repeat' split at hc
  all_goals first
   | (rw [List.mem_singleton] at hc;subst hc;dsimp only;omega)
   | cases hc
 ·split at hc
  ·rw [List.mem_singleton] at hc;subst hc;dsimp only;omega
  ·cases hc
def Hk (i : Nat) (L : List Int) : List Iss := L.map fun v => ⟨i,1,v⟩
def Ha (pts : List Pnt) (i : Nat) (L : List Int) : List Iss := L.map fun l => ⟨i,if pts[l.toNat]!.op = 5 then 3 else 2,l⟩
def Mq (ts : List Int) (pts : List Pnt) (Am Al Af Ap : List Nat) (i : Nat) : Nat :=
 Ll pts (Be ts pts[i]! Al[i]! (dG Af i) &&& Ap[i]!) (kC ts pts[i]! (Am[i]!.testBit (aQ pts[i]!).toNat)) 0
def G6 (ts : List Int) (pts : List Pnt) (Aa Am Al Af Ap : List Nat) (i : Nat) : List Iss :=
 Hk i (a7 (oJ (wS ts pts[i]! [1,2,3]) Aa[i]!)) ++ Ha pts i (a7 (Mq ts pts Am Al Af Ap i))
def pZ (ts : List Int) (pts : List Pnt) (Aa Am Al Af Ap : List Nat) (k : Nat) : List Iss := (List.range k).flatMap (G6 ts pts Aa Am Al Af Ap)
theorem n5 (ts:List Int) (pts:List Pnt) (Aa Am Al Af Ap:List Nat) (k:Nat):pZ ts pts Aa Am Al Af Ap (k + 1) = pZ ts pts Aa Am Al Af Ap k ++ G6 ts pts Aa Am Al Af Ap k:=by
 unfold pZ;rw [List.range_succ,List.flatMap_append]; simp
theorem kW {α β:Type}[Inhabited α] (g:α → β) (L:List α) (k:Nat) (h:k < L.length):(L.take (k + 1)).map g = (L.take k).map g ++ [g L[k]!]:=by
 rw [bG _ _ h,List.map_append]; rfl
theorem NP {xs:List Iss}{m:Nat}{a b c:Int}(hm:m = xs.length):((flat iW xs).drop 0).take (m * 3) ++ [iv a,iv b,iv c] = flat iW (xs ++ [⟨a,b,c⟩]) := fJ hm rfl
theorem DQ {ts:List Int}{pts:List Pnt}(w:WG ts pts){Am Al Af Ap:List Nat}{i:Nat}(hp:Ap[i]! < 2 ^ pts.length):Mq ts pts Am Al Af Ap i < 2 ^ pts.length:=by
 have hpl := w.pl
 have hl : Be ts pts[i]! Al[i]! (dG Af i) &&& Ap[i]! < 2 ^ pts.length := Nat.and_lt_two_pow _ hp
 apply Nat.lt_pow_two_of_testBit
 intro l hl2
 unfold Mq
 cases hq : (Ll pts (Be ts pts[i]! Al[i]! (dG Af i) &&& Ap[i]!) (kC ts pts[i]! (Am[i]!.testBit (aQ pts[i]!).toNat)) 0).testBit l with
 | false => rfl
 | true =>
  rw [mV _ _ _ ⟨Nat.lt_of_lt_of_le hl (Nat.pow_le_pow_right (by decide) (by omega))⟩] at hq
  rcases hq with hq | ⟨c,_,h2,_⟩
  ·simp at hq
  ·have := cT hl h2;omega
theorem K9 {ts:List Int}{pts:List Pnt}(w:WG ts pts){a:Nat × Nat}(h:Mb ts pts a):a.2 < ts.length:=by
 induction h with
 | base h => obtain ⟨i,e,h2⟩ := h;have := (w.set i e.1).1;omega
 | step _ r ih => rw [r.1]; exact ih
variable {P : Program} {N : Nat} {Q : Exit → AS → Prop} {all : Array Oper} {rest : List Oper} {ts : List (Nat × AV)} {hs : List (Nat × Option (List AV))} {n : Nat} {z0 : Lo} {md : Md}
variable {d : Nat} {ty : TypeId} {pos : String} {af : Array Edge}
section
theorem u6 {fn:Go.Fn}{t i:Nat}{cs:List AV}(hx:lk ts t = some (.optr i 0)) (hH:aT hs i = some cs) (hN:Nat.blt d N = true)
  (kk : RW P N all Q .txt rest ⟨(d,.clos fn [] [.iptr cs]) :: (t,.iptr cs) :: ts,(i,none) :: hs,n,z0⟩) : RW P N all Q .txt (⟨some d,.makeFunc fn #[] #[.tmp t],ty,pos,af,none⟩ :: rest) ⟨ts,hs,n,z0⟩ :=
 cX (mX (f := []) (c := [.iptr cs]) rfl (by show evL _ [Operand.tmp t] = _; simp [evL,ev,lO]) hN (md' := .txt) kk) (Le.frzP hx hH)
end
structure Flows (ts : List Int) (pts : List Pnt) where
 Aa : List Nat
 Am : List Nat
 An : List Nat
 Al : List Nat
 Af : List Nat
 Ap : List Nat
 ga : sC ts pts Aa
 gm : r8 ts pts Am
 gn : u7 ts pts An
 gl : sG ts pts Al
 gf : sQ ts pts Af
 gp : sR ts pts Ap
theorem nR (n m:Nat) (T:Nat → Nat → Prop) (h:∀ i v,i < n → T i v → v < m):∃ A:List Nat,A.length = n ∧ ∀ i,i < n → ∀ v,A[i]!.testBit v = true ↔ T i v:=by
 have key : ∀ i : Nat, ∃ f : Nat → Bool, ∀ v, f v = true ↔ T i v := fun i => by
  have : ∀ v, ∃ b : Bool, b = true ↔ T i v := fun v => by
   by_cases hT : T i v
   ·exact ⟨true,by simp [hT]⟩
   ·exact ⟨false,by simp [hT]⟩
  exact ⟨fun v => Classical.choose (this v),fun v => Classical.choose_spec (this v)⟩
 refine ⟨(List.range n).map (fun i => e8 (Classical.choose (key i)) m),by simp,fun i hi v => ?_⟩
 rw [aY _ _ (by simpa using hi),List.getElem_map,List.getElem_range,e5,Bool.and_eq_true,decide_eq_true_eq,Classical.choose_spec (key i) v]
 exact ⟨fun h2 => h2.2,fun h2 => ⟨h i v hi h2,h2⟩⟩
theorem Flows.ex {ts:List Int}{pts:List Pnt}(w:WG ts pts):Nonempty (Flows ts pts):=by
 obtain ⟨Aa,a1,a2⟩ := nR pts.length ts.length (fun i v => v < ts.length ∧ ¬ Na ts pts (i,v)) (fun i v _ h => h.1)
 obtain ⟨Am,b1,b2⟩ := nR pts.length ts.length (fun i v => Mb ts pts (i,v)) (fun i v _ h => K9 w h)
 obtain ⟨An,c1,c2⟩ := nR pts.length ts.length (fun i v => Nd ts pts (i,v)) (fun i v _ h => uO w h)
 obtain ⟨Al,d1,d2⟩ := nR pts.length ts.length (fun i v => Lv ts pts i v) (fun i v _ h => by obtain ⟨k,_,h⟩ := h;exact uO w h)
 obtain ⟨Ap,e1,e2⟩ := nR pts.length pts.length (fun i l => Oe ts pts (i,l)) (fun i v _ h => (v7 h).1)
 obtain ⟨Af,f1,f2⟩ := nR (pts.length * 6) pts.length (fun q l => Lk ts pts (q / 6,q % 6,l)) (fun q v _ h => (FD w h).2.2)
 refine ⟨⟨Aa,Am,An,Al,Af,Ap,⟨a1,a2⟩,⟨b1,b2⟩,⟨c1,c2⟩,⟨d1,d2⟩,⟨f1,fun i v hi hv l => ?_⟩,⟨e1,e2⟩⟩⟩
 rw [f2 (i * 6 + v) (by omega) l,show (i * 6 + v) / 6 = i by omega,show (i * 6 + v) % 6 = v by omega]
def Flows.iss {ts : List Int} {pts : List Pnt} (f : Flows ts pts) : List Iss := pZ ts pts f.Aa f.Am f.Al f.Af f.Ap pts.length
class BoT (P : Program) (t : Nat) : Prop where pf : P.underlying t = some .bool
theorem E6 {P:Program}{t:TypeId}(h:P.underlying t = some .bool) (a b:Bool) (w:World):(Op.equal t (.bool a) (.bool b)).run P w = .ok (decide (a = b)) w:=by
 have e : ∀ d : Nat, (Op.equalIn (d + 1) t (.bool a) (.bool b)).run P w = .ok (a == b) w := fun d => by
  simp [Op.equalIn,run_underlying h]
 have : (a == b) = decide (a = b) := by cases a <;> cases b <;> rfl
 rw [← this]; exact e 9999
def OD (op : BinOp) (a b : Bool) : Option Value :=
 match op with
 | .eql => some (.bool (decide (a = b)))
 | .neq => some (.bool (!decide (a = b)))
 | _ => none
section
variable {P : Program} {C : Ctx} {ι : Pl} {T : Nat → Option AV} {H : Nat → Option (List AV)} {a : Act} {w : World} {o : Oper}
theorem MR (g:TG C ι T H a w){op:BinOp}{t t':TypeId}{x y:Operand}{m n:Bool}{v:Value}(ht:P.underlying t = some .bool) (ho:o.op = .binOp op t x y t')
  (hx : ev T x = some (.v (.bool m))) (hy : ev T y = some (.v (.bool n))) (h : OD op m n = some v) : Pu P C ι H a w o (.v v) := by
 have h1 := bU g hx
 have h2 := bU g hy
 simp only [Rd] at h1 h2
 refine ⟨v,?_,by simp [Rd]⟩
 have hg : (eqGuard op t x y (.bool m) (.bool n)).run P w = .ok () w := by
  unfold eqGuard
  cases op <;> simp
 have hb : (binOp op t (.bool m) (.bool n)).run P w = .ok v w := by
  cases op <;> simp only [OD] at h <;> cases h
  ·simp [binOp,E6 (P := P) ht]
  ·simp [binOp,E6 (P := P) ht]
 simp only [execOp,ho,h1,h2,Sem.run_bind,hg,Result.andThen_ok,hb,Sem.run_pure]
end
section
theorem NI {op:BinOp}{t t':TypeId}{x y:Operand}{m m':Bool}{v:Value}[ht:BoT P t] (hx:ev (lk ts) x = some (.v (.bool m))) (hy:ev (lk ts) y = some (.v (.bool m')))
  (h : OD op m m' = some v) (hN : Nat.blt d N = true) {md' : Md} [hmd : MdA md (rO x ++ rO y) [.inl d] md'] (kk : RW P N all Q md' rest ⟨(d,.v v) :: ts,hs,n,z0⟩) : RW P N all Q md (⟨some d,.binOp op t x y t',ty,pos,af,none⟩ :: rest) ⟨ts,hs,n,z0⟩ :=
 dI rfl rfl (cS hN) (fun C ι F T H a w ag g gh => MR g ht.pf rfl (ag.l.ev.trans hx) (ag.r.ev.trans hy) h) (by rw [hmd.pf]; exact kk)
end
theorem wE {α:Type}{f:α → List AV}{e m:Nat}[h:FlT f e] {ys:List α}{H:Nat → Option (List AV)}(hm:m = ys.length):sCells H e (qR (.imm m (flat f ys))) = some (m,flat f ys):=by
 subst hm
 have hl : (flat f ys).length = ys.length * e := aI f ys
 show (if ys.length * e ≤ (flat f ys).length then some (ys.length,(flat f ys).take (ys.length * e)) else none) = _
 rw [if_pos (by omega),List.take_of_length_le (by omega)]
theorem qH {α:Type}{f:α → List AV}{ys:List α}{e m:Nat}{L:List AV}(h:m = 0):(((List.replicate 0 L).flatten).drop 0).take (m * e) ++ flat f ys = flat f ys := by subst h;simp
theorem Le.cells {ts:List (Nat × AV)}{hs:List (Nat × Option (List AV))}{n:Nat}{z0:Lo}{i:Nat}{cs cs':List AV}(hi:aT hs i = some cs) (hl:cs'.length = cs.length)
  (h : ∀ (w : World) (bad : Nat → Prop) (ι : Pl) (b β : Nat),RdC w bad ι cs b β → RdC w bad ι cs' b β) :
  Le ⟨ts,hs,n,z0⟩ ⟨ts,(i,some cs') :: hs,n,z0⟩ := by
 rintro C a w ⟨h0,ι,g,gh⟩
 have hk : ∀ id c, aT ((i, some cs') :: hs) id = some c → (id = i ∧ c = cs') ∨ (id ≠ i ∧ aT hs id = some c) := by
  intro id c hc
  rw [cP] at hc
  split at hc
  ·rename_i e;cases hc;exact .inl ⟨e,rfl⟩
  ·rename_i e;exact .inr ⟨fun h => e h,hc⟩
 have hk2 : ∀ id c, aT hs id = some c → ∃ c', aT ((i, some cs') :: hs) id = some c' := by
  intro id c hc
  rw [cP]
  split
  ·exact ⟨_,rfl⟩
  ·exact ⟨_,hc⟩
 have hb : aL C.X ι (aT ((i, some cs') :: hs)) = aL C.X ι (aT hs) := by
  funext b
  refine propext ⟨?_,?_⟩
  ·rintro (h | ⟨id, c, β, h1, h2⟩)
   ·exact .inl h
   ·rcases hk id c h1 with ⟨rfl, _⟩ | ⟨_, h3⟩
    ·exact .inr ⟨_,_,_,hi,h2⟩
    ·exact .inr ⟨_,_,_,h3,h2⟩
  ·rintro (h | ⟨id, c, β, h1, h2⟩)
   ·exact .inl h
   ·obtain ⟨c', h3⟩ := hk2 id c h1
    exact .inr ⟨_,_,_,h3,h2⟩
 refine ⟨h0,ι,⟨g.df,g.sz,fun t av ht => ?_⟩,?_,?_,gh.fr,gh.ex,gh.fresh⟩
 ·show ∃ y, a.tmps[t]? = some y ∧ Rd w (aL C.X ι (aT ((i, some cs') :: hs))) ι av y
  rw [hb]; exact g.tm t av ht
 ·intro id c hc
  show _ ∨ ∃ b β arr e,ι id = some (some (b,β)) ∧ w.heap[b]? = some (.cells arr e (0,0)) ∧ β + c.length ≤ arr.size ∧ RdC w (aL C.X ι (aT ((i,some cs') :: hs))) ι c b β ∧ ¬ C.X b ∧ (C.W0 b ∨ C.w0.heap.size ≤ b)
  rw [hb]
  rcases hk id c hc with ⟨rfl,rfl⟩ | ⟨_,h3⟩
  ·rcases gh.obj _ _ hi with ⟨q1, q2⟩ | ⟨b, β, arr, e, q1, q2, q3, q4, q5⟩
   ·subst q2
    exact .inl ⟨q1,List.eq_nil_of_length_eq_zero hl⟩
   ·exact .inr ⟨b,β,arr,e,q1,q2,by rw [hl]; exact q3,h _ _ _ _ _ q4,q5⟩
  ·exact gh.obj _ _ h3
 ·intro id id' c c' b β β' h1 h2 h3 h4
  obtain ⟨d1, e1⟩ : ∃ d, aT hs id = some d := by
   rcases hk id c h1 with ⟨rfl,_⟩ | ⟨_,h⟩
   ·exact ⟨_,hi⟩
   ·exact ⟨_,h⟩
  obtain ⟨d2, e2⟩ : ∃ d, aT hs id' = some d := by
   rcases hk id' c' h2 with ⟨rfl,_⟩ | ⟨_,h⟩
   ·exact ⟨_,hi⟩
   ·exact ⟨_,h⟩
  exact gh.sep id id' d1 d2 b β β' e1 e2 h3 h4
def iF (r : List Bool) : List AV := [sl cB r]
instance : FlT iF 1:=⟨fun _ => rfl⟩
instance : FE iF (fun r => [sl cB r]):=⟨fun _ => rfl⟩
instance (r : List Bool) : Pur (iF r):=⟨by show (AV.pur (sl cB r) && true) = true;rw [Bool.and_true]; exact bD cB r⟩
theorem EY {w:World}{bad:Nat → Prop}{ι:Pl}{b:Nat}:∀ (m β:Nat),RdC w bad ι ((List.replicate m ([Value.slice none 0 0].map AV.v)).flatten) b β → RdC w bad ι (flat iF (List.replicate m [])) b β
 | 0,_,_ => trivial
 | m + 1, β, h => by
  rw [List.replicate_succ,List.flatten_cons] at h
  rw [List.replicate_succ]
  obtain ⟨⟨x,h1,h2,h3⟩,h4⟩ := h
  exact ⟨⟨x,h1,h2,nK (av := .v (.slice none 0 0)) h3⟩,EY m (β + 1) h4⟩
theorem Le.nilRows {ts:List (Nat × AV)}{hs:List (Nat × Option (List AV))}{n:Nat}{z0:Lo}{i m:Nat}(hi:aT hs i = some ((List.replicate m ([Value.slice none 0 0].map AV.v)).flatten)) :
  Le ⟨ts,hs,n,z0⟩ ⟨ts,(i,some (flat iF (List.replicate m []))) :: hs,n,z0⟩ :=
 Le.cells hi (by rw [aI]; simp) fun w bad ι b β h => EY m β h
theorem Ks {α:Type}[Inhabited α] (xs:List α) (i:Nat):xs[i]! = if h:i < xs.length then xs[i] else default:=by
 split
 ·rw [aY _ _ ‹_›]
 ·rw [getElem!_neg xs i ‹_›]
theorem bT {α:Type}[Inhabited α] {a b:List α}(hl:a.length = b.length) (h:∀ i,i < a.length → a[i]! = b[i]!):a = b:=by
 refine List.ext_getElem hl fun i h1 h2 => ?_
 have := h i h1
 rwa [aY _ _ h1,aY _ _ h2] at this
theorem aW {α:Type}[Inhabited α] (xs:List α) (i j:Nat) (x:α):(xs.set i x)[j]! = if i = j ∧ j < xs.length then x else xs[j]!:=by
 by_cases hj : j < xs.length
 ·rw [aY _ _ (by simpa using hj),List.getElem_set,aY _ _ hj]; grind
 ·rw [getElem!_neg (xs.set i x) j (by simpa using hj),getElem!_neg xs j hj,if_neg (by omega)]
theorem bQ {α:Type}[Inhabited α] (f:Nat → α) (n i:Nat) (h:i < n):(((List.range n).map f:List α))[i]! = f i:=by
 rw [aY _ i (by simpa using h)]; simp
theorem dN {α:Type}[Inhabited α] (x:α) (n i:Nat) (h:i < n):(List.replicate n x:List α)[i]! = x:=by
 rw [aY _ i (by simpa using h)]; simp
def kZ (ts : List Int) (x : Pnt) (b : List Bool) : List Bool := (List.range b.length).map fun (v : Nat) => decide (aQ x = (v : Int)) || (b[v]! && !decide (aV ts x v = 2))
def x4 (o a : List Bool) (all : Bool) : List Bool := (List.range a.length).map fun (v : Nat) => if v < o.length then (if all then o[v]! && a[v]! else o[v]! || a[v]!) else a[v]!
theorem m9 (ts:List Int) (x:Pnt) (b:List Bool):(kZ ts x b).length = b.length := by simp [kZ]
theorem n4 (o a:List Bool) (all:Bool):(x4 o a all).length = a.length := by simp [x4]
theorem j8 (ts:List Int) (x:Pnt) (b:List Bool) (v:Nat) (h:v < b.length):(kZ ts x b)[v]! = (decide (aQ x = (v:Int)) || (b[v]! && !decide (aV ts x v = 2))) := bQ _ _ _ h
theorem y9 (o a:List Bool) (all:Bool) (v:Nat) (h:v < a.length):(x4 o a all)[v]! = if v < o.length then (if all then o[v]! && a[v]! else o[v]! || a[v]!) else a[v]! := bQ _ _ _ h
theorem fN {α:Type}[Inhabited α] (xs ys:List α) (i:Nat):(xs ++ ys)[i]! = if i < xs.length then xs[i]! else ys[i - xs.length]!:=by
 by_cases h : i < xs.length
 ·rw [if_pos h,aY _ i (by simp;omega),aY _ i h,List.getElem_append_left h]
 ·rw [if_neg h]
  by_cases h2 : i - xs.length < ys.length
  ·rw [aY (xs ++ ys) i (by simp;omega),aY _ _ h2,List.getElem_append_right (by omega)]
  ·rw [getElem!_neg (xs ++ ys) i (by simp;omega),getElem!_neg ys _ h2]
theorem LF {α:Type}[Inhabited α] (p q:α) (A B:List α):([p] ++ A ++ [q] ++ B)[0]! = p := by rw [fN,fN,fN]; simp
theorem Q3 {α:Type}[Inhabited α] (p q:α) (A B:List α) (k:Nat) (h:k < A.length):([p] ++ A ++ [q] ++ B)[1 + k]! = A[k]!:=by
 rw [fN,if_pos (by simp;omega),fN,if_pos (by simp;omega),fN,if_neg (by simp)]
 congr 1;simp
theorem RZ {α:Type}[Inhabited α] (p q:α) (A B:List α) (k:Nat):([p] ++ A ++ [q] ++ B)[2 + A.length + k]! = B[k]!:=by
 rw [fN,if_neg (by simp;omega)]
 congr 1;simp;omega
mutual
theorem MH:∀ (s:Stmt) (b i:Nat),b < i → i ≤ b + pD s → ∃ j,b ≤ j ∧ j < i ∧ j < b + pD s ∧ (i:Int) ∈ (wR b s)[j - b]!.next
 | .mk op x y n th el, b, i, h1, h2 => by
  have hA := bV th (b + 1)
  have hB := bV el (b + 2 + dB th)
  by_cases h9 : op = 9
  ·subst h9
   simp only [pD,if_true] at h2 ⊢
   simp only [wR,if_true]
   by_cases c1 : i = b + 1
   ·refine ⟨b, by omega, by omega, by omega, ?_⟩
    rw [Nat.sub_self,LF]; simp;omega
   ·by_cases c2 : i ≤ b + 1 + dB th
    ·obtain ⟨j, e1, e2, e3, e4⟩ := qG th (b + 1) i (by omega) c2
     refine ⟨j,by omega,by omega,by omega,?_⟩
     rw [show j - b = 1 + (j - (b + 1)) by omega,Q3 _ _ _ _ _ (by omega)]; exact e4
    ·by_cases c3 : i = b + 2 + dB th
     ·refine ⟨b, by omega, by omega, by omega, ?_⟩
      rw [Nat.sub_self,LF]; simp;omega
     ·obtain ⟨j, e1, e2, e3, e4⟩ := qG el (b + 2 + dB th) i (by omega) (by omega)
      refine ⟨j,by omega,by omega,by omega,?_⟩
      rw [show j - b = 2 + (fS (b + 1) th).length + (j - (b + 2 + dB th)) by omega,RZ]; exact e4
  ·by_cases h10 : op = 10
   ·subst h10
    simp only [pD,if_true,show ((10 : Int) = 9) = False by simp,if_false] at h2 ⊢
    simp only [wR,if_true,show ((10 : Int) = 9) = False by simp,if_false]
    rw [← List.append_nil ([_] ++ _ ++ [_])]
    by_cases c1 : i = b + 1
    ·refine ⟨b, by omega, by omega, by omega, ?_⟩
     rw [Nat.sub_self,LF]; simp;omega
    ·by_cases c2 : i ≤ b + 1 + dB th
     ·obtain ⟨j, e1, e2, e3, e4⟩ := qG th (b + 1) i (by omega) c2
      refine ⟨j,by omega,by omega,by omega,?_⟩
      rw [show j - b = 1 + (j - (b + 1)) by omega,Q3 _ _ _ _ _ (by omega)]; exact e4
     ·refine ⟨b, by omega, by omega, by omega, ?_⟩
      rw [Nat.sub_self,LF]; simp;omega
   ·simp only [pD, h9, h10, if_false] at h2 ⊢
    simp only [wR,h9,h10,if_false]
    refine ⟨b,by omega,by omega,by omega,?_⟩
    rw [Nat.sub_self]; simp;omega
theorem qG:∀ (l:List Stmt) (b i:Nat),b < i → i ≤ b + dB l → ∃ j,b ≤ j ∧ j < i ∧ j < b + dB l ∧ (i:Int) ∈ (fS b l)[j - b]!.next
 | [],b,i,h1,h2 => by simp only [dB] at h2;omega
 | s :: l, b, i, h1, h2 => by
  have hS := E8 s b
  simp only [dB] at h2 ⊢
  simp only [fS]
  by_cases c : i ≤ b + pD s
  ·obtain ⟨j, e1, e2, e3, e4⟩ := MH s b i h1 c
   refine ⟨j,by omega,by omega,by omega,?_⟩
   rw [fN,if_pos (by omega)]; exact e4
  ·obtain ⟨j, e1, e2, e3, e4⟩ := qG l (b + pD s) i (by omega) (by omega)
   refine ⟨j,by omega,by omega,by omega,?_⟩
   rw [fN,if_neg (by omega),hS,show j - b - pD s = j - (b + pD s) by omega]; exact e4
end
def Rch (pts : List Pnt) : Prop := ∀ i,0 < i → i < pts.length → ∃ j,j < i ∧ cO pts j i
theorem Rch.of (p:Prg):Rch (aD p):=by
 intro i h1 h2
 rw [j6] at h2
 obtain ⟨j,e1,e2,e3,e4⟩ := qG p.body 0 i h1 (by omega)
 refine ⟨j,e2,by rw [j6]; omega,?_⟩
 unfold aD
 rw [fN,if_pos (by rw [bV]; omega)]
 exact e4
def mH (f : Nat → Nat) : Nat → Nat
 | 0 => 0
 | n + 1 => mH f n + f n
theorem sumF_le {f g:Nat → Nat}:∀ n,(∀ i,i < n → f i ≤ g i) → mH f n ≤ mH g n
 | 0,_ => Nat.le_refl _
 | n + 1,h => Nat.add_le_add (sumF_le n fun i hi => h i (by omega)) (h n (by omega))
theorem qP {f g:Nat → Nat}:∀ n,(∀ i,i < n → f i ≤ g i) → (∃ i,i < n ∧ f i < g i) → mH f n < mH g n
 | 0,_,⟨i,h,_⟩ => by omega
 | n + 1, h, ⟨i, hi, hlt⟩ => by
  show mH f n + f n < mH g n + g n
  have h1 := sumF_le n fun i hi => h i (by omega)
  have h2 := h n (by omega)
  by_cases e : i = n
  ·subst e;omega
  ·have := qP n (fun i hi => h i (by omega)) ⟨i, by omega, hlt⟩
   omega
theorem Cj:∀ n,mH (fun _ => 1) n = n
 | 0 => rfl
 | n + 1 => by show mH _ n + 1 = _; rw [Cj n]
def lU (all : Bool) (b : List Bool) (v : Nat) : Bool := b[v]! != all
structure Fw where
 out : List (List Bool)
 seen : List Bool
 work : List Int
def HN (ts : List Int) (pts : List Pnt) (all : Bool) (a : Nat × Nat) : Prop := if all = true then Na ts pts a else Mb ts pts a
theorem Qd (all:Bool) (o a:List Bool) (v:Nat) (h:v < a.length):lU all (x4 o a all) v = if v < o.length then lU all o v || lU all a v else lU all a v:=by
 unfold lU
 rw [y9 _ _ _ _ h]
 split
 ·cases all <;> cases o[v]! <;> cases a[v]! <;> rfl
 ·rfl
theorem QR {ts:List Int}{pts:List Pnt}{all:Bool}{i k v:Nat}{b:List Bool}(e:cO pts i k) (hv:v < ts.length) (hb:b.length = ts.length) (hT:lU all b v = true → HN ts pts all (i,v))
  (h : lU all (kZ ts pts[i]! b) v = true) : HN ts pts all (k,v) := by
 unfold lU at h hT
 unfold HN at *
 rw [j8 _ _ _ _ (by omega)] at h
 cases all with
 | false =>
  simp only [Bool.false_eq_true,if_false,Bool.bne_false,Bool.or_eq_true,decide_eq_true_eq,Bool.and_eq_true,Bool.not_eq_true',decide_eq_false_iff_not] at h hT ⊢
  rcases h with h | ⟨h1,h2⟩
  ·exact .base ⟨i,e,h⟩
  ·exact .step (hT h1) ⟨rfl,e,h2⟩
 | true =>
  simp only [if_true,Bool.bne_true,Bool.not_eq_true',Bool.or_eq_false_iff,decide_eq_false_iff_not,Bool.and_eq_false_iff,Bool.not_eq_false',decide_eq_true_eq] at h hT ⊢
  rcases h with ⟨h1,h2|h2⟩
  ·exact .step (hT h2) ⟨rfl,e,h1⟩
  ·exact .base ⟨hv,.inr ⟨i,e,h2,h1⟩⟩
structure FI (ts : List Int) (pts : List Pnt) (all : Bool) (s : Fw) : Prop where
 lo : s.out.length = pts.length
 ls : s.seen.length = pts.length
 a : ∀ i,i < pts.length → s.seen[i]! = true → s.out[i]!.length = ts.length
 b : ∀ i,i < pts.length → s.seen[i]! = false → s.out[i]! = []
 z : s.seen[0]! = true
 z1 : all = true → ∀ v,v < ts.length → lU all s.out[0]! v = true
 t : ∀ i,i < pts.length → s.seen[i]! = true → ∀ v,v < ts.length → lU all s.out[i]! v = true → HN ts pts all (i,v)
 w : ∀ k,k ∈ s.work → 0 ≤ k ∧ k < pts.length ∧ s.seen[k.toNat]! = true
def pL (all : Bool) (nv : Nat) (seen : Bool) (b : List Bool) : Nat := if seen = true then mH (fun v => if lU all b v = true then 0 else 1) nv else nv + 1
def mS (all : Bool) (nv N : Nat) (s : Fw) : Nat := 3 * mH (fun i => pL all nv s.seen[i]! s.out[i]!) N + s.work.length
theorem Fh (all:Bool) (nv:Nat) (b:List Bool):pL all nv true b ≤ nv:=by
 unfold pL
 rw [if_pos rfl]
 have := sumF_le (f := fun v => if lU all b v = true then 0 else 1) (g := fun _ => 1) nv (fun i _ => by split <;> omega)
 rw [Cj] at this
 exact this
theorem Nk {all:Bool}{nv:Nat}{b b':List Bool}(h1:b.length = nv) (h2:b'.length = nv) (hm:∀ v,v < nv → lU all b v = true → lU all b' v = true) (hne:b ≠ b'):pL all nv true b' < pL all nv true b:=by
 unfold pL
 rw [if_pos rfl,if_pos rfl]
 have : ∃ v, v < nv ∧ b[v]! ≠ b'[v]! := by
  apply Classical.byContradiction
  intro hc
  refine hne (bT (by omega) fun i hi => ?_)
  apply Classical.byContradiction
  intro hd
  exact hc ⟨i,by omega,hd⟩
 obtain ⟨v,hv,hd⟩ := this
 refine qP nv (fun i hi => ?_) ⟨v,hv,?_⟩
 ·have := hm i hi
  grind
 ·have := hm v hv
  unfold lU at this ⊢
  revert this hd
  cases b[v]! <;> cases b'[v]! <;> cases all <;> simp
def Ln (all : Bool) (aft : List Bool) (s : Fw) (n : Nat) : Fw :=
 if s.seen[n]! = true ∧ s.out[n]! = x4 s.out[n]! aft all then s else ⟨s.out.set n (x4 s.out[n]! aft all),s.seen.set n true,s.work ++ [(n : Int)]⟩
structure FPush (ts : List Int) (pts : List Pnt) (all : Bool) (aft : List Bool) (n : Nat) (s s' : Fw) : Prop where
 I : FI ts pts all s'
 mu : mS all ts.length pts.length s' ≤ mS all ts.length pts.length s
 mono : ∀ k,k < pts.length → s.seen[k]! = true → s'.seen[k]! = true ∧ ∀ v,v < ts.length → lU all s.out[k]! v = true → lU all s'.out[k]! v = true
 sn : s'.seen[n]! = true
 mv : ∀ v,v < ts.length → lU all aft v = true → lU all s'.out[n]! v = true
 wk : ∀ x,x ∈ s.work → x ∈ s'.work
 ot : ∀ i,i ≠ n → s'.out[i]! = s.out[i]! ∧ s'.seen[i]! = s.seen[i]!
 or : (n : Int) ∈ s'.work ∨ s' = s
theorem Px {ts:List Int}{pts:List Pnt}{all:Bool}{s:Fw}{n:Nat}{aft:List Bool}(I:FI ts pts all s) (hn:n < pts.length) (ha:aft.length = ts.length)
  (hT : ∀ v,v < ts.length → lU all aft v = true → HN ts pts all (n,v)) : FPush ts pts all aft n s (Ln all aft s n) := by
 have hjl : (x4 s.out[n]! aft all).length = ts.length := by rw [n4,ha]
 have hj := fun v (hv : v < ts.length) => Qd all s.out[n]! aft v (by omega)
 unfold Ln
 split
 ·rename_i hc
  refine ⟨I,Nat.le_refl _,fun k _ h => ⟨h,fun _ _ h => h⟩,hc.1,fun v hv hm => ?_,fun _ h => h,fun _ _ => ⟨rfl,rfl⟩,.inr rfl⟩
  have hl := I.a n hn hc.1
  rw [hc.2,hj v hv,if_pos (by omega),hm,Bool.or_true]
 ·rename_i hc
  have hlo := I.lo
  have hls := I.ls
  have hmono : s.seen[n]! = true → ∀ v, v < ts.length → lU all s.out[n]! v = true → lU all (x4 s.out[n]! aft all) v = true := by
   intro hs v hv hm
   have hl := I.a n hn hs
   rw [hj v hv,if_pos (by omega),hm,Bool.true_or]
  have hot : ∀ i, i ≠ n → (s.out.set n (x4 s.out[n]! aft all))[i]! = s.out[i]! ∧ (s.seen.set n true)[i]! = s.seen[i]! := fun i hi => by
   rw [aW,aW,if_neg (by omega),if_neg (by omega)]; exact ⟨rfl,rfl⟩
  have hon : (s.out.set n (x4 s.out[n]! aft all))[n]! = x4 s.out[n]! aft all := by rw [aW,if_pos (by omega)]
  have hsn : (s.seen.set n true)[n]! = true := by rw [aW,if_pos (by omega)]
  refine ⟨⟨by simp;omega,by simp;omega,fun i hi h => ?_,fun i hi h => ?_,?_,fun h v hv => ?_,fun i hi h v hv hm => ?_,fun k hk => ?_⟩,?_,fun k hk h => ?_,hsn,fun v hv hm => ?_,fun x hx => List.mem_append_left _ hx,hot,.inl (by simp)⟩
  ·dsimp only at h ⊢
   by_cases e : i = n
   ·subst e;rw [hon]; exact hjl
   ·rw [(hot i e).1]; rw [(hot i e).2] at h;exact I.a i hi h
  ·dsimp only at h ⊢
   by_cases e : i = n
   ·subst e;rw [hsn] at h;cases h
   ·rw [(hot i e).1]; rw [(hot i e).2] at h;exact I.b i hi h
  ·dsimp only
   by_cases e : 0 = n
   ·subst e;exact hsn
   ·rw [(hot 0 e).2]; exact I.z
  ·dsimp only
   by_cases e : 0 = n
   ·subst e;rw [hon]; exact hmono I.z v hv (I.z1 h v hv)
   ·rw [(hot 0 e).1]; exact I.z1 h v hv
  ·dsimp only at h hm ⊢
   by_cases e : i = n
   ·subst e
    rw [hon,hj v hv] at hm
    split at hm
    ·rename_i hlt
     rw [Bool.or_eq_true] at hm
     rcases hm with hm|hm
     ·refine I.t i hi ?_ v hv hm
      cases hq : s.seen[i]! with
      | true => rfl
      | false => rw [I.b i hi hq] at hlt;simp at hlt
     ·exact hT v hv hm
    ·exact hT v hv hm
   ·rw [(hot i e).1] at hm; rw [(hot i e).2] at h
    exact I.t i hi h v hv hm
  ·dsimp only at hk ⊢
   rw [List.mem_append,List.mem_singleton] at hk
   rcases hk with hk|hk
   ·have := I.w k hk
    refine ⟨this.1,this.2.1,?_⟩
    by_cases e : k.toNat = n
    ·rw [e]; exact hsn
    ·rw [(hot _ e).2]; exact this.2.2
   ·subst hk;exact ⟨by omega,by omega,hsn⟩
  ·unfold mS
   dsimp only
   have : mH (fun i => pL all ts.length (s.seen.set n true)[i]! (s.out.set n (x4 s.out[n]! aft all))[i]!) pts.length < mH (fun i => pL all ts.length s.seen[i]! s.out[i]!) pts.length := by
    have hlt : pL all ts.length true (x4 s.out[n]! aft all) < pL all ts.length s.seen[n]! s.out[n]! := by
     cases hq : s.seen[n]! with
     | true => exact Nk (I.a n hn hq) hjl (hmono hq) (fun e => hc ⟨hq,e⟩)
     | false =>
      have h1 := Fh all ts.length (x4 s.out[n]! aft all)
      have h2 : pL all ts.length false s.out[n]! = ts.length + 1 := by unfold pL;rw [if_neg (by simp)]
      omega
    refine qP _ (fun i hi => ?_) ⟨n,hn,?_⟩
    ·by_cases e : i = n
     ·subst e;rw [hon,hsn]; omega
     ·rw [(hot i e).1,(hot i e).2]; exact Nat.le_refl _
    ·rw [hon,hsn]; exact hlt
   rw [List.length_append,List.length_singleton]; omega
  ·dsimp only
   by_cases e : k = n
   ·subst e;rw [hsn,hon]; exact ⟨rfl,hmono h⟩
   ·rw [(hot k e).1,(hot k e).2]; exact ⟨h,fun _ _ h => h⟩
  ·dsimp only
   rw [hon,hj v hv]
   split
   ·rw [hm,Bool.or_true]
   ·exact hm
def R7 (ts : List Int) (pts : List Pnt) (all : Bool) (s : Fw) (i : Nat) : Prop := ∀ k,cO pts i k → s.seen[k]! = true ∧ ∀ v,v < ts.length → lU all (kZ ts pts[i]! s.out[i]!) v = true → lU all s.out[k]! v = true
def FC (ts : List Int) (pts : List Pnt) (all : Bool) (e : Nat → Prop) (s : Fw) : Prop := ∀ i,i < pts.length → s.seen[i]! = true → (i : Int) ∉ s.work → ¬ e i → R7 ts pts all s i
theorem FPush.fc {ts:List Int}{pts:List Pnt}(w:WG ts pts){all:Bool}{aft:List Bool}{n:Nat}{s s':Fw}{e:Nat → Prop}(p:FPush ts pts all aft n s s') (h:FC ts pts all e s):FC ts pts all e s':=by
 intro i hi hs hw he k hk
 have hkl := cZ w hk
 rcases p.or with q|q
 ·have hin : i ≠ n := fun e => by subst e; exact hw q
  rw [(p.ot i hin).2] at hs
  obtain ⟨h1,h2⟩ := h i hi hs (fun hx => hw (p.wk _ hx)) he k hk
  obtain ⟨m1,m2⟩ := p.mono k hkl h1
  refine ⟨m1,fun v hv hm => m2 v hv (h2 v hv ?_)⟩
  rw [(p.ot i hin).1] at hm;exact hm
 ·subst q;exact h i hi hs hw he k hk
structure FIn (ts : List Int) (pts : List Pnt) (all : Bool) (at_ : Nat) (aft : List Bool) (m j : Nat) (s : Fw) : Prop where
 I : FI ts pts all s
 C : FC ts pts all (· = at_) s
 mu : mS all ts.length pts.length s ≤ m
 D : (at_ : Int) ∈ s.work ∨ (aft = kZ ts pts[at_]! s.out[at_]! ∧ ∀ j',j' < j → j' < pts[at_]!.next.length → s.seen[(pts[at_]!.next[j']!).toNat]! = true ∧ ∀ v,v < ts.length → lU all aft v = true → lU all s.out[(pts[at_]!.next[j']!).toNat]! v = true)
theorem FIn.step {ts:List Int}{pts:List Pnt}(w:WG ts pts){all:Bool}{at_:Nat}{aft:List Bool}{m j:Nat}{s:Fw}(hat:at_ < pts.length) (h:FIn ts pts all at_ aft m j s) (hj:j < pts[at_]!.next.length) (ha:aft.length = ts.length)
  (hT : ∀ k,cO pts at_ k → ∀ v,v < ts.length → lU all aft v = true → HN ts pts all (k,v)) : FIn ts pts all at_ aft m (j + 1) (Ln all aft s (pts[at_]!.next[j]!).toNat) := by
 have hnx := w.nx at_ hat _ (aS _ _ hj)
 have hed : cO pts at_ (pts[at_]!.next[j]!).toNat := ⟨hat,by rw [Int.toNat_of_nonneg hnx.1]; exact aS _ _ hj⟩
 have p := Px (n := (pts[at_]!.next[j]!).toNat) h.I (by omega) ha (hT _ hed)
 refine ⟨p.I,p.fc w h.C,Nat.le_trans p.mu h.mu,?_⟩
 rcases h.D with d | ⟨d1,d2⟩
 ·exact .inl (p.wk _ d)
 ·by_cases e : (at_ : Int) ∈ (Ln all aft s (pts[at_]!.next[j]!).toNat).work
  ·exact .inl e
  ·refine .inr ⟨?_, fun j' h1 h2 => ?_⟩
   ·rcases p.or with q | q
    ·have : at_ ≠ (pts[at_]!.next[j]!).toNat := fun e2 => e (by
      have e4 : (at_ : Int) = ((pts[at_]!.next[j]!).toNat : Nat) := congrArg Int.ofNat e2
      rw [e4]; exact q)
     rw [(p.ot at_ this).1]; exact d1
    ·rw [q]; exact d1
   ·by_cases e3 : j' = j
    ·subst e3;exact ⟨p.sn,p.mv⟩
    ·obtain ⟨g1, g2⟩ := d2 j' (by omega) h2
     have hnx' := w.nx at_ hat _ (aS _ _ h2)
     obtain ⟨m1,m2⟩ := p.mono _ (by omega) g1
     exact ⟨m1,fun v hv hm => m2 v hv (g2 v hv hm)⟩
theorem FIn.out {ts:List Int}{pts:List Pnt}{all:Bool}{at_:Nat}{aft:List Bool}{m j:Nat}{s:Fw}(h:FIn ts pts all at_ aft m j s) (hj:pts[at_]!.next.length ≤ j):FC ts pts all (fun _ => False) s:=by
 intro i hi hs hw _
 by_cases e : i = at_
 ·subst e
  rcases h.D with d | ⟨d1,d2⟩
  ·exact absurd d hw
  ·intro k hk
   obtain ⟨j',q1,q2⟩ := List.getElem_of_mem hk.2
   have := d2 j' (by omega) q1
   rw [aY _ _ q1,q2,d1] at this
   exact this
 ·exact h.C i hi hs hw e
theorem FC.final {ts:List Int}{pts:List Pnt}(w:WG ts pts) (hr:Rch pts){all:Bool}{s:Fw}(I:FI ts pts all s) (h:FC ts pts all (fun _ => False) s) (hw:s.work = []) :
  (∀ i,i < pts.length → s.seen[i]! = true) ∧ ∀ i,i < pts.length → ∀ v,v < ts.length → (lU all s.out[i]! v = true ↔ HN ts pts all (i,v)) := by
 have hs : ∀ i, i < pts.length → s.seen[i]! = true := by
  intro i
  induction i using Nat.strongRecOn with
  | ind i ih =>
   intro hi
   by_cases e : i = 0
   ·subst e;exact I.z
   ·obtain ⟨j, hj, he⟩ := hr i (by omega) hi
    exact (h j he.1 (ih j hj he.1) (by rw [hw]; simp) (fun h => h) i he).1
 have hc : ∀ i,i < pts.length → R7 ts pts all s i := fun i hi => h i hi (hs i hi) (by rw [hw]; simp) (fun h => h)
 refine ⟨hs,fun i hi v hv => ⟨fun hm => I.t i hi (hs i hi) v hv hm,fun hT => ?_⟩⟩
 have key : ∀ a : Nat × Nat, HN ts pts all a → a.2 < ts.length ∧ (a.1 < pts.length → lU all s.out[a.1]! a.2 = true) := by
  intro a ha
  unfold HN at ha
  cases all with
  | false =>
   simp only [Bool.false_eq_true,if_false] at ha
   refine Clo.sub (T := fun a => a.2 < ts.length ∧ (a.1 < pts.length → lU false s.out[a.1]! a.2 = true)) ?_ ?_ a ha
   ·rintro a ⟨i, e, h1⟩
    have hb := (w.set i e.1).1
    refine ⟨by omega,fun hl => (hc i e.1 a.1 e).2 a.2 (by omega) ?_⟩
    have hl := I.a i e.1 (hs i e.1)
    unfold lU
    rw [j8 _ _ _ _ (by omega),decide_eq_true h1]; rfl
   ·rintro a b ⟨h1, h2⟩ ⟨r1, r2, r3⟩
    refine ⟨by omega,fun hl => (hc a.1 r2.1 b.1 r2).2 b.2 (by omega) ?_⟩
    have hl := I.a a.1 r2.1 (hs a.1 r2.1)
    have h3 := h2 r2.1
    unfold lU at h3 ⊢
    rw [j8 _ _ _ _ (by omega),r1,decide_eq_false r3]
    simp only [Bool.bne_false] at h3 ⊢
    rw [h3]; simp
  | true =>
   simp only [if_true] at ha
   refine Clo.sub (T := fun a => a.2 < ts.length ∧ (a.1 < pts.length → lU true s.out[a.1]! a.2 = true)) ?_ ?_ a ha
   ·rintro a ⟨h0, h1 | ⟨i, e, h1, h2⟩⟩
    ·refine ⟨h0, fun hl => ?_⟩
     rw [h1]; exact I.z1 rfl _ h0
    ·refine ⟨h0, fun hl => (hc i e.1 a.1 e).2 a.2 h0 ?_⟩
     have hl := I.a i e.1 (hs i e.1)
     unfold lU
     rw [j8 _ _ _ _ (by omega),decide_eq_true h1,decide_eq_false h2]; simp
   ·rintro a b ⟨h1, h2⟩ ⟨r1, r2, r3⟩
    refine ⟨by omega,fun hl => (hc a.1 r2.1 b.1 r2).2 b.2 (by omega) ?_⟩
    have hl := I.a a.1 r2.1 (hs a.1 r2.1)
    have h3 := h2 r2.1
    unfold lU at h3 ⊢
    rw [j8 _ _ _ _ (by omega),r1,decide_eq_false r3]
    simp only [Bool.bne_true,Bool.not_eq_true'] at h3 ⊢
    rw [h3]; simp
 exact (key _ hT).2 hi
theorem FP (all:Bool) (nv N:Nat) (s:Fw):s.work.length ≤ mS all nv N s := by unfold mS;omega
theorem Ik (c:Nat):∀ n,mH (fun _ => c) n = n * c
 | 0 => by simp [mH]
 | n + 1 => by show mH _ n + c = _; rw [Ik c n,Nat.add_mul]; omega
theorem NG (all:Bool) (nv N:Nat) (s:Fw) (h1:nv ≤ 6) (h2:N ≤ 61):mS all nv N s ≤ 2000 + s.work.length:=by
 unfold mS
 have := sumF_le (f := fun i => pL all nv s.seen[i]! s.out[i]!) (g := fun _ => 7) N (fun i _ => by
  have := Fh all nv s.out[i]!
  cases hq : s.seen[i]! with
  | true => omega
  | false => unfold pL;rw [if_neg (by simp)]; omega)
 rw [Ik] at this
 omega
theorem Qc {ts:List Int}{pts:List Pnt}{all:Bool}{out:List (List Bool)}{seen:List Bool}{a:Int}{q:List Int}(I:FI ts pts all ⟨out,seen,a :: q⟩) (h:FC ts pts all (fun _ => False) ⟨out,seen,a :: q⟩) :
  FIn ts pts all a.toNat (kZ ts pts[a.toNat]! out[a.toNat]!) (mS all ts.length pts.length ⟨out,seen,a :: q⟩ - 1) 0 ⟨out,seen,q⟩ := by
 have ha := (I.w a List.mem_cons_self).1
 refine ⟨⟨I.lo,I.ls,I.a,I.b,I.z,I.z1,I.t,fun k hk => I.w k (List.mem_cons_of_mem _ hk)⟩,fun i hi hs hw he => ?_,?_,.inr ⟨rfl,fun j' h => by omega⟩⟩
 ·refine h i hi hs (fun hx => ?_) (fun h => h)
  rcases List.mem_cons.1 hx with e|e
  ·exact he (by show i = a.toNat;omega)
  ·exact hw e
 ·unfold mS;simp only [List.length_cons]; omega
theorem Rl {ts:List Int}{pts:List Pnt}{all:Bool}{s:Fw}{i:Nat}(I:FI ts pts all s) (hs:s.seen[i]! = true):∀ k,cO pts i k → ∀ v,v < ts.length → lU all (kZ ts pts[i]! s.out[i]!) v = true → HN ts pts all (k,v) :=
 fun k e v hv h => QR e hv (I.a i e.1 hs) (fun hm => I.t i e.1 hs v hv hm) h
theorem Mt {ts:List Int}{pts:List Pnt}(w:WG ts pts) (all:Bool) :
  FI ts pts all ⟨(List.replicate pts.length []).set 0 (List.replicate ts.length false),(List.replicate pts.length false).set 0 true,[0]⟩ ∧
  FC ts pts all (fun _ => False) ⟨(List.replicate pts.length []).set 0 (List.replicate ts.length false),(List.replicate pts.length false).set 0 true,[0]⟩ := by
 have hp := w.p0
 have h0 : ∀ i, i < pts.length → ((List.replicate pts.length false).set 0 true)[i]! = true → i = 0 := by
  intro i hi h
  rw [aW] at h
  apply Classical.byContradiction
  intro hc
  rw [if_neg (by omega),dN _ _ _ hi] at h
  cases h
 have o0 : ((List.replicate pts.length ([] : List Bool)).set 0 (List.replicate ts.length false))[0]! = List.replicate ts.length false := by rw [aW,if_pos (by simp;omega)]
 have s0 : ((List.replicate pts.length false).set 0 true)[0]! = true := by rw [aW,if_pos (by simp;omega)]
 refine ⟨⟨by simp,by simp,fun i hi h => ?_,fun i hi h => ?_,s0,fun h v hv => ?_,fun i hi h v hv hm => ?_,fun k hk => ?_⟩,fun i hi hs hw _ => ?_⟩
 ·have := h0 i hi h; subst this
  dsimp only;rw [o0]; simp
 ·dsimp only at h ⊢
  have : i ≠ 0 := fun e => by subst e;rw [s0] at h;cases h
  rw [aW,if_neg (by omega),dN _ _ _ hi]
 ·dsimp only;rw [o0]; unfold lU;rw [dN _ _ _ hv,h]; rfl
 ·have := h0 i hi h; subst this
  dsimp only at hm
  rw [o0] at hm;unfold lU at hm;rw [dN _ _ _ hv] at hm
  unfold HN
  cases all with
  | true => exact .base ⟨hv,.inl rfl⟩
  | false => cases hm
 ·dsimp only at hk ⊢
  rw [List.mem_singleton] at hk;subst hk
  exact ⟨by omega,by omega,s0⟩
 ·have := h0 i hi hs; subst this
  exact absurd (List.mem_singleton.2 rfl) hw
def dV (nv N : Nat) (A : List Nat) : List (List Bool) := (List.range N).map fun (i : Nat) => (List.range nv).map fun (v : Nat) => A[i]!.testBit v
theorem iB (nv N:Nat) (A:List Nat):(dV nv N A).length = N := by simp [dV]
theorem hZ (nv N:Nat) (A:List Nat) (i:Nat) (h:i < N):(dV nv N A)[i]! = (List.range nv).map fun (v:Nat) => A[i]!.testBit v := bQ _ _ _ h
theorem nW (nv N:Nat) (A:List Nat) (i v:Nat) (h:i < N) (hv:v < nv):(dV nv N A)[i]![v]! = A[i]!.testBit v := by rw [hZ _ _ _ _ h,bQ _ _ _ hv]
def uJ (ts : List Int) (pts : List Pnt) (all : Bool) (A : List Nat) : Prop := if all = true then sC ts pts A else r8 ts pts A
theorem JW {ts:List Int}{pts:List Pnt}(w:WG ts pts) (hr:Rch pts){all:Bool}{s:Fw}{A:List Nat}(hA:uJ ts pts all A) (I:FI ts pts all s) (h:FC ts pts all (fun _ => False) s) (hw:s.work = []) :
  s.out = dV ts.length pts.length A := by
 obtain ⟨h1,h2⟩ := FC.final w hr I h hw
 refine bT (by rw [iB,I.lo]) fun i hi => ?_
 rw [I.lo] at hi
 have hl := I.a i hi (h1 i hi)
 refine bT (by rw [hl,hZ _ _ _ _ hi]; simp) fun v hv => ?_
 rw [hl] at hv
 rw [nW _ _ _ _ _ hi hv]
 have h3 := h2 i hi v hv
 unfold uJ at hA
 unfold lU HN at h3
 cases all with
 | true =>
  simp only [if_true,Bool.bne_true,Bool.not_eq_true'] at hA h3
  have h4 := hA.2 i hi v
  by_cases hq : Na ts pts (i,v)
  ·rw [h3.2 hq]
   symm;rw [Bool.eq_false_iff]; intro hb;exact (h4.1 hb).2 hq
  ·rw [h4.2 ⟨hv, hq⟩]
   cases hx : s.out[i]![v]! with
   | true => rfl
   | false => exact absurd (h3.1 hx) hq
 | false =>
  simp only [Bool.false_eq_true,if_false,Bool.bne_false] at hA h3
  have h4 := hA.2 i hi v
  rw [Bool.eq_iff_iff,h3,h4]
theorem Le.mvO {ts:List (Nat × AV)}{hs:List (Nat × Option (List AV))}{n:Nat}{z0:Lo}{d i o m e:Nat}{cs:List AV}(hd:lk ts d = some (.own i o m e)) (hi:aT hs i = some cs) (ho:o ≤ cs.length) (hn:n < a6) :
  Le ⟨ts,hs,n,z0⟩ ⟨(d,.own n 0 m e) :: ts,(n,some (cs.drop o)) :: (i,none) :: hs,n + 1,z0⟩ := by
 rintro C a w ⟨h0,ι,g,gh⟩
 have hf : ι n = none := gh.fresh n ⟨Nat.le_refl _,.inl hn⟩
 have hin : ∃ p, ι i = some p := by
  rcases gh.obj i cs hi with ⟨r1,_⟩ | ⟨b,β,_,_,r1,_⟩
  ·exact ⟨_,r1⟩
  ·exact ⟨_,r1⟩
 obtain ⟨pi,hpi⟩ := hin
 have hni : n ≠ i := by rintro rfl;rw [hf] at hpi;cases hpi
 let ι' : Pl := dU ι n (some (pi.map fun x => (x.1,x.2 + o)))
 have hnn : ι' n = some (pi.map fun x => (x.1,x.2 + o)) := by simp only [ι',upd_same]
 have hne' : ∀ id,id ≠ n → ι' id = ι id := fun id h => by simp only [ι',bF _ _ h]
 have hne : ∀ id p, ι id = some p → ι' id = some p := by
  intro id p h
  have : id ≠ n := by rintro rfl;rw [hf] at h;cases h
  rw [hne' _ this,h]
 -- the objects of the new state: the new one, or an old one
 have hσ : ∀ id c, aT ((n, some (cs.drop o)) :: (i, none) :: hs) id = some c → (id = n ∧ c = cs.drop o) ∨ (id ≠ n ∧ id ≠ i ∧ aT hs id = some c ∧ ι' id = ι id) := by
  intro id c h
  simp only [cP] at h
  by_cases q : id = n
  ·subst q
   rw [if_pos rfl] at h;cases h
   exact .inl ⟨rfl,rfl⟩
  ·rw [if_neg q] at h
   by_cases q2 : id = i
   ·rw [if_pos q2] at h;cases h
   ·rw [if_neg q2] at h
    exact .inr ⟨q,q2,h,hne' _ q⟩
 have hnb : ∀ b β, ι' n = some (some (b, β)) → ∃ β0, ι i = some (some (b, β0)) ∧ β = β0 + o := by
  intro b β h
  rw [hnn] at h
  cases pi with
  | none => cases h
  | some x => obtain ⟨x1,x2⟩ := x;cases h;exact ⟨x2,hpi,rfl⟩
 have car : Carry w (aL C.X ι (aT hs)) ι w (aL C.X ι' (aT ((n, some (cs.drop o)) :: (i, none) :: hs))) ι' := by
  refine ⟨fun b o' x h1 h2 => ⟨?_,h2⟩,hne,fun _ => Nat.le_refl _⟩
  rintro (h | ⟨id,c,β,q1,q2⟩)
  ·exact h1 (.inl h)
  ·rcases hσ id c q1 with ⟨rfl, _⟩ | ⟨_, _, r1, r2⟩
   ·obtain ⟨β0, r, _⟩ := hnb b β q2
    exact h1 (.inr ⟨i,cs,β0,hi,r⟩)
   ·exact h1 (.inr ⟨id,c,β,r1,by rw [← r2]; exact q2⟩)
 refine ⟨h0,ι',⟨g.df,g.sz,fun t av ht => ?_⟩,⟨fun id c h => ?_,fun id id' c c' b β β' q1 q2 q3 q4 => ?_,gh.fr,fun id p h => hne _ _ (gh.ex _ _ h),fun id h => ?_⟩⟩
 ·have ht' : lk ((d, .own n 0 m e) :: ts) t = some av := ht
  rw [lO] at ht'
  split at ht'
  ·rename_i et
   subst et
   cases ht'
   obtain ⟨y,hy,hr⟩ := g.tm t _ hd
   refine ⟨y,hy,?_⟩
   simp only [Rd] at hr ⊢
   rcases hr with ⟨_,h2,a',h3⟩ | ⟨b,β,c,h1,h2,h3,h4⟩
   ·exact .inl ⟨⟨_,hnn⟩,h2,a',h3⟩
   ·refine .inr ⟨b, β + o, c, ?_, by rw [h2]; simp, h3, by simpa using h4⟩
    rw [hnn]
    rw [hpi] at h1;cases h1;rfl
  ·obtain ⟨y, hy, hr⟩ := g.tm t av ht'
   exact ⟨y,hy,Rd.carry car _ _ hr⟩
 ·rcases hσ id c h with ⟨rfl, rfl⟩ | ⟨_, _, r1, r2⟩
  ·rcases gh.obj _ cs hi with ⟨s1, s2⟩ | ⟨b, β, arr, e', s1, s2, s3, s4, s5, s6⟩
   ·refine .inl ⟨?_, by rw [s2]; simp⟩
    rw [hnn]; rw [hpi] at s1;cases s1;rfl
   ·refine .inr ⟨b, β + o, arr, e', ?_, s2, by rw [List.length_drop]; omega, RdC.carryB car _ _ _ (fun o x hx => hx) (RdC.drop o ho s4), s5, s6⟩
    rw [hnn]; rw [hpi] at s1;cases s1;rfl
  ·rcases gh.obj _ c r1 with ⟨s1, s2⟩ | ⟨b, β, arr, e', s1, s2, s3, s4, s5, s6⟩
   ·exact .inl ⟨by rw [r2]; exact s1,s2⟩
   ·exact .inr ⟨b,β,arr,e',by rw [r2]; exact s1,s2,s3,RdC.carryB car _ _ _ (fun o x hx => hx) s4,s5,s6⟩
 ·rcases hσ id c q1 with ⟨rfl, _⟩ | ⟨u1, u2, r1, r2⟩
  ·rcases hσ id' c' q2 with ⟨rfl, _⟩ | ⟨v1, v2, t1, t2⟩
   ·rfl
   ·obtain ⟨β0, x1, _⟩ := hnb b β q3
    exact absurd (gh.sep _ _ _ _ _ _ _ hi t1 x1 (by rw [← t2]; exact q4)).symm v2
  ·rcases hσ id' c' q2 with ⟨rfl, _⟩ | ⟨v1, v2, t1, t2⟩
   ·obtain ⟨β0, x1, _⟩ := hnb b β' q4
    exact absurd (gh.sep _ _ _ _ _ _ _ r1 hi (by rw [← r2]; exact q3) x1) u2
   ·exact gh.sep _ _ _ _ _ _ _ r1 t1 (by rw [← r2]; exact q3) (by rw [← t2]; exact q4)
 ·have h1 : n + 1 ≤ id := h.1
  have h2 : id < a6 ∨ z0.fb ≤ id := h.2
  rw [hne' id (by omega)]
  exact gh.fresh id ⟨by show n ≤ id;omega,h2⟩
section
def Stop (p : Prop) : Prop := p
theorem aZ {op:Op}{g:Option (Nat × Bool)}(h:Stop (RW P N all Q md (⟨some d,op,ty,pos,af,g⟩ :: rest) ⟨ts,hs,n,z0⟩)):RW P N all Q md (⟨some d,op,ty,pos,af,g⟩ :: rest) ⟨ts,hs,n,z0⟩ := h
theorem bY {l:List Oper}{s:AS}(h:RW P N all Q md l s):Stop (RW P N all Q md l s) := h
theorem lX {t el:TypeId}{x:Operand}{lo:Option Operand}{i o m e l:Nat}[ht:SlT P t el] [he:SzT P el e] (hx:ev (lk ts) x = some (.own i o m e))
  (hl : gA (lk ts) lo 0 = some l) (hb : l ≤ m) (hN : Nat.blt d N = true) {md' : Md} [hmd : MdA md (rO x ++ (rB lo ++ rB none)) [.inl d] md'] (kk : RW P N all Q md' rest ⟨(d,.own i (o + l * e) (m - l) e) :: ts,hs,n,z0⟩) :
  RW P N all Q md (⟨some d,.slice t x lo none none,ty,pos,af,none⟩ :: rest) ⟨ts,hs,n,z0⟩ :=
 gR (m := m) (h := m) hx rfl hl rfl (by simp [Od,hb]) hN (md' := md') (hmd := hmd) kk
theorem wW {t el e by' m:Nat}{x y:Operand}{zs:List Value}{cs:List AV}{k k':IntKind}[ht:SlT P t el] [he:SzT P el e] [hb:ByT P el by'] [hz:ZrT P el zs]
  (hx : ev (lk ts) x = some (.v (.int k (m : Int)))) (hy : ev (lk ts) y = some (.v (.int k' (m : Int)))) (hze : zs.length = e) (hsm : by' * m ≤ 281474976710656) (hmx : m ≤ 9223372036854775807)
  (hcs : (List.replicate m (zs.map .v)).flatten = cs) (hM : Nat.blt n a6 = true) (hN : Nat.blt d N = true) (kk : RW P N all Q .txt rest ⟨(d,.imm m cs) :: ts,(n,none) :: hs,n + 1,z0⟩) :
  RW P N all Q .txt (⟨some d,.makeSlice t x y,ty,pos,af,none⟩ :: rest) ⟨ts,hs,n,z0⟩ :=
 oL hx hy hze hsm hmx hcs hM hN (md' := .txt) (cX kk Le.frzTop)
theorem O2 {t el by' m:Nat}{x y:Operand}{k k':IntKind}[ht:SlT P t el] [he:SzT P el 1] [hb:ByT P el by'] [hz:ZrT P el [.bool false]]
  (hx : ev (lk ts) x = some (.v (.int k (m : Int)))) (hy : ev (lk ts) y = some (.v (.int k' (m : Int)))) (hsm : by' * m ≤ 281474976710656) (hmx : m ≤ 9223372036854775807)
  (hM : Nat.blt n a6 = true) (hN : Nat.blt d N = true) (kk : RW P N all Q .txt rest ⟨(d,sl cB (List.replicate m false)) :: ts,(n,none) :: hs,n + 1,z0⟩) :
  RW P N all Q .txt (⟨some d,.makeSlice t x y,ty,pos,af,none⟩ :: rest) ⟨ts,hs,n,z0⟩ := by
 refine wW hx hy rfl hsm hmx E0 hM hN ?_
 have e : sl cB (List.replicate m false) = .imm m (flat cB (List.replicate m false)) := by unfold sl;rw [List.length_replicate]
 rw [← e]; exact kk
end
theorem EL {xs:List (List Bool)}{k:Nat}{r:List Bool}(hk:k < xs.length):gW (flat iF xs) (0 + k * 1) [sl cB r] = flat iF (xs.set k r) := iS hk rfl
def Li (pts : List Pnt) (pl lv : List Bool) (l : Nat) (c : Acc) : Bool := lv[l]! && pl[l]! && decide (pts[l]!.y = c.var) && (c.write || decide (pts[l]!.op = 5))
def Ql (pts : List Pnt) (acs : List Acc) (pl lv : List Bool) : List Bool := (List.range pts.length).map fun (l : Nat) => acs.any (Li pts pl lv l)
theorem zH (pts:List Pnt) (acs:List Acc) (pl lv:List Bool):(Ql pts acs pl lv).length = pts.length := by simp [Ql]
theorem FF (pts:List Pnt) (acs:List Acc) (pl lv:List Bool) (l:Nat) (h:l < pts.length):(Ql pts acs pl lv)[l]! = acs.any (Li pts pl lv l) := bQ _ _ _ h
theorem KE {α:Type}[Inhabited α] (f:α → Bool) (xs:List α) (k:Nat) (h:k < xs.length):(xs.take (k + 1)).any f = ((xs.take k).any f || f xs[k]!):=by
 rw [bG _ _ h,List.any_append]; simp
def iD (a b : List Bool) : List Bool := (List.range a.length).map fun (l : Nat) => a[l]! || (decide (l < b.length) && b[l]!)
theorem gH (a b:List Bool):(iD a b).length = a.length := by simp [iD]
theorem fA (a b:List Bool) (l:Nat) (h:l < a.length):(iD a b)[l]! = (a[l]! || (decide (l < b.length) && b[l]!)) := bQ _ _ _ h
def y3 (nv : Nat) (b : List Bool) : Nat := mH (fun v => if b[v]! = true then 0 else 1) nv
def Oa (nv N : Nat) (R : List (List Bool)) : Nat := mH (fun i => y3 nv R[i]!) N
theorem yH {nv:Nat}{a b:List Bool}(h:∀ v,v < nv → a[v]! = true → b[v]! = true):y3 nv b ≤ y3 nv a :=
 sumF_le nv fun v hv => by
  show (if b[v]! = true then 0 else 1) ≤ (if a[v]! = true then 0 else 1)
  by_cases ha : a[v]! = true
  ·rw [if_pos (h v hv ha)]; omega
  ·rw [if_neg ha]; split <;> omega
theorem zJ {nv:Nat}{a b:List Bool}(h:∀ v,v < nv → a[v]! = true → b[v]! = true){v:Nat}(hv:v < nv) (ha:a[v]! = false) (hb:b[v]! = true):y3 nv b < y3 nv a :=
 qP nv (fun v hv => by
  show (if b[v]! = true then 0 else 1) ≤ (if a[v]! = true then 0 else 1)
  by_cases ha : a[v]! = true
  ·rw [if_pos (h v hv ha)]; omega
  ·rw [if_neg ha]; split <;> omega) ⟨v,hv,by show (if b[v]! = true then 0 else 1) < (if a[v]! = true then 0 else 1);rw [if_pos hb,if_neg (by rw [ha]; decide)]; omega⟩
theorem Dg {nv N:Nat}{R R':List (List Bool)}(h:∀ i,i < N → y3 nv R'[i]! ≤ y3 nv R[i]!){i:Nat}(hi:i < N) (hlt:y3 nv R'[i]! < y3 nv R[i]!):Oa nv N R' < Oa nv N R :=
 qP N h ⟨i,hi,hlt⟩
theorem Nv {nv N i v:Nat}{R:List (List Bool)}(hl:R.length = N) (hi:i < N) (hv:v < nv) (hr:R[i]!.length = nv) (hf:R[i]![v]! = false):Oa nv N (R.set i (R[i]!.set v true)) < Oa nv N R:=by
 have hq : ∀ u,u < nv → R[i]![u]! = true → (R[i]!.set v true)[u]! = true := fun u hu h => by rw [aW]; split <;> first|rfl|exact h
 refine Dg (fun j hj => ?_) hi ?_
 ·rw [aW]
  split
  ·rename_i e;obtain ⟨rfl,_⟩ := e;exact yH hq
  ·exact Nat.le_refl _
 ·rw [aW, if_pos ⟨rfl, by omega⟩]
  exact zJ hq hv hf (by rw [aW,if_pos ⟨rfl,by omega⟩])
theorem Ad {pts:List Pnt}{i n:Nat}(e:cO pts i n):∃ k,k < pts[i]!.next.length ∧ (pts[i]!.next[k]!).toNat = n:=by
 obtain ⟨k,hk,h⟩ := List.getElem_of_mem e.2
 exact ⟨k,hk,by rw [aY _ _ hk,h]; simp⟩
theorem CH {ts:List Int}{pts:List Pnt}(w:WG ts pts){i k:Nat}(hi:i < pts.length) (hk:k < pts[i]!.next.length):cO pts i (pts[i]!.next[k]!).toNat:=by
 have hm := aS _ _ hk
 have := w.nx i hi _ hm
 exact ⟨hi,by rw [Int.toNat_of_nonneg this.1]; exact hm⟩
def iZ (ts : List Int) (pts : List Pnt) (R : List (List Bool)) (n v : Nat) : Bool := !decide (aV ts pts[n]! v = 0) || (R[n]![v]! && !decide (aQ pts[n]! = v))
structure LS (ts : List Int) (pts : List Pnt) (R0 R : List (List Bool)) (c : Bool) (D : Nat → Nat → Nat → Prop) : Prop where
 lo : R.length = pts.length
 ro : ∀ i,i < pts.length → R[i]!.length = ts.length
 snd : ∀ i v,i < pts.length → v < ts.length → R[i]![v]! = true → Lv ts pts i v
 dec : c = true → Oa ts.length pts.length R < Oa ts.length pts.length R0
 same : c = false → R = R0 ∧ ∀ i k v,i < pts.length → k < pts[i]!.next.length → v < ts.length → D i k v → iZ ts pts R (pts[i]!.next[k]!).toNat v = true → R[i]![v]! = true
theorem LS.mono {ts:List Int}{pts:List Pnt}{R0 R:List (List Bool)}{c:Bool}{D D':Nat → Nat → Nat → Prop}(h:LS ts pts R0 R c D)
  (k : ∀ i k v,i < pts.length → k < pts[i]!.next.length → v < ts.length → D' i k v → D i k v) : LS ts pts R0 R c D' :=
 ⟨h.lo,h.ro,h.snd,h.dec,fun hc => ⟨(h.same hc).1,fun i q v hi hq hv hd => (h.same hc).2 i q v hi hq hv (k i q v hi hq hv hd)⟩⟩
theorem LS.skip {ts:List Int}{pts:List Pnt}{R0 R:List (List Bool)}{c:Bool}{D D':Nat → Nat → Nat → Prop}(h:LS ts pts R0 R c D){i k v:Nat}(hs:iZ ts pts R (pts[i]!.next[k]!).toNat v = true → R[i]![v]! = true)
  (hD : ∀ i' k' v',i' < pts.length → k' < pts[i']!.next.length → v' < ts.length → D' i' k' v' → D i' k' v' ∨ (i' = i ∧ k' = k ∧ v' = v)) : LS ts pts R0 R c D' :=
 ⟨h.lo, h.ro, h.snd, h.dec, fun hc => ⟨(h.same hc).1, fun i' q v' hi hq hv hd hn => by
  rcases hD i' q v' hi hq hv hd with h1 | ⟨rfl,rfl,rfl⟩
  ·exact (h.same hc).2 i' q v' hi hq hv h1 hn
  ·exact hs hn⟩⟩
theorem NX {ts:List Int}{pts:List Pnt}(w:WG ts pts){R:List (List Bool)}(hs:∀ i v,i < pts.length → v < ts.length → R[i]![v]! = true → Lv ts pts i v){n v:Nat}(hn:n < pts.length) (hv:v < ts.length) (h:iZ ts pts R n v = true):Nd ts pts (n,v):=by
 unfold iZ at h
 simp only [Bool.or_eq_true,Bool.not_eq_true',decide_eq_false_iff_not,Bool.and_eq_true] at h
 rcases h with h | ⟨h1,h2⟩
 ·exact .base ⟨hn,hv,h⟩
 ·obtain ⟨k, e, hk⟩ := hs n v hn hv h1
  exact .step hk ⟨rfl,e,h2⟩
theorem LS.hit {ts:List Int}{pts:List Pnt}(w:WG ts pts){R0 R:List (List Bool)}{c:Bool}{D:Nat → Nat → Nat → Prop}(D':Nat → Nat → Nat → Prop) (h:LS ts pts R0 R c D){i k v:Nat}(hi:i < pts.length) (hk:k < pts[i]!.next.length) (hv:v < ts.length)
  (hn : iZ ts pts R (pts[i]!.next[k]!).toNat v = true) (hf : R[i]![v]! = false) : LS ts pts R0 (R.set i (R[i]!.set v true)) true D' := by
 have hlt := Nv h.lo hi hv (h.ro i hi) hf
 have e := CH w hi hk
 have hro := h.ro i hi
 have hlo := h.lo
 refine ⟨by rw [List.length_set]; exact h.lo,fun j hj => ?_,fun j u hj hu hr => ?_,fun _ => ?_,fun hc => by cases hc⟩
 ·rw [aW]; split
  ·rw [List.length_set]; exact hro
  ·exact h.ro j hj
 ·rw [aW] at hr
  split at hr
  ·rename_i q
   obtain ⟨rfl,_⟩ := q
   rw [aW] at hr
   split at hr
   ·rename_i q
    obtain ⟨rfl,_⟩ := q
    exact ⟨_,e,NX w h.snd (cZ w e) hv hn⟩
   ·exact h.snd _ u hj hu hr
  ·exact h.snd j u hj hu hr
 ·cases hc : c with
  | true => have := h.dec hc;omega
  | false => rw [← (h.same hc).1]; exact hlt
def DL (z : Int) (kk vv : Nat) (i k v : Nat) : Prop := z < (i : Int) ∨ (z = (i : Int) ∧ (k < kk ∨ (k = kk ∧ v < vv)))
structure LH (ts : List Int) (pts : List Pnt) (R : List (List Bool)) (c : Bool) : Prop where
 lo : R.length = pts.length
 ro : ∀ i,i < pts.length → R[i]!.length = ts.length
 snd : ∀ i v,i < pts.length → v < ts.length → R[i]![v]! = true → Lv ts pts i v
 cl : c = false → ∀ i k v,i < pts.length → k < pts[i]!.next.length → v < ts.length → iZ ts pts R (pts[i]!.next[k]!).toNat v = true → R[i]![v]! = true
theorem LH.start {ts:List Int}{pts:List Pnt}{R:List (List Bool)}{c:Bool}(h:LH ts pts R c):LS ts pts R R false (DL ((pts.length:Int) - 1) 0 0) :=
 ⟨h.lo,h.ro,h.snd,fun hc => (by cases hc),fun _ => ⟨rfl,fun i k v hi hk hv hd _ => by unfold DL at hd;omega⟩⟩
theorem LH.init (ts:List Int) (pts:List Pnt):LH ts pts (List.replicate pts.length (List.replicate ts.length false)) true :=
 ⟨by simp,fun i hi => (by rw [dN _ _ _ hi]; simp),fun i v hi hv h => (by rw [dN _ _ _ hi,dN _ _ _ hv] at h;cases h),fun h => (by cases h)⟩
def Rz (nv N : Nat) (R : List (List Bool)) (c : Bool) : Nat := 2 * Oa nv N R + (if c = true then 1 else 0)
theorem LS.fin {ts:List Int}{pts:List Pnt}{R0 R:List (List Bool)}{c:Bool}{z:Int}(hz:z < 0) (h:LS ts pts R0 R c (DL z 0 0)):LH ts pts R c ∧ Rz ts.length pts.length R c < Rz ts.length pts.length R0 true:=by
 refine ⟨⟨h.lo,h.ro,h.snd,fun hc i k v hi hk hv => (h.same hc).2 i k v hi hk hv (.inl (by omega))⟩,?_⟩
 unfold Rz
 cases hc : c with
 | true => have := h.dec hc;simp only [if_true]; omega
 | false => rw [(h.same hc).1]; simp
theorem LH.final {ts:List Int}{pts:List Pnt}(w:WG ts pts){R:List (List Bool)}{A:List Nat}(hA:sG ts pts A) (h:LH ts pts R false):R = dV ts.length pts.length A:=by
 have key : ∀ a : Nat × Nat, Nd ts pts a → (∀ i, cO pts i a.1 → R[i]![a.2]! = true) ∧ a.2 < ts.length := by
  refine Clo.sub (T := fun a : Nat × Nat => (∀ i,cO pts i a.1 → R[i]![a.2]! = true) ∧ a.2 < ts.length) ?_ ?_
  ·rintro ⟨n, v⟩ ⟨h1, h2, h3⟩
   dsimp only at h1 h2 h3 ⊢
   refine ⟨fun i e => ?_,h2⟩
   obtain ⟨k,hk,hkn⟩ := Ad e
   refine h.cl rfl i k v e.1 hk h2 ?_
   rw [hkn]; unfold iZ;rw [decide_eq_false h3]; rfl
  ·rintro ⟨x, v⟩ ⟨y, v'⟩ ⟨hT, hv⟩ ⟨rfl, e, hs⟩
   dsimp only at hT hv e hs ⊢
   refine ⟨fun i ei => ?_,hv⟩
   obtain ⟨k,hk,hkn⟩ := Ad ei
   refine h.cl rfl i k _ ei.1 hk hv ?_
   rw [hkn]; unfold iZ;rw [hT y e,decide_eq_false hs]; simp
 refine bT (by rw [iB,h.lo]) fun i hi => ?_
 rw [h.lo] at hi
 have hl := h.ro i hi
 refine bT (by rw [hl,hZ _ _ _ _ hi]; simp) fun v hv => ?_
 rw [hl] at hv
 rw [nW _ _ _ _ _ hi hv,Bool.eq_iff_iff,hA.2 i hi v]
 exact ⟨fun hr => h.snd i v hi hv hr,fun ⟨k,e,hk⟩ => (key (k,v) hk).1 i e⟩
def HP (fa fb : List (List Bool)) (i v : Nat) : Bool := !fa[v]![i]! || fb[v]![i]!
def Gr (fa fb : List (List Bool)) (pa pb : List Bool) (i : Nat) : Bool := (!pa[i]! || pb[i]!) && (List.range fa.length).all (HP fa fb i)
def Hb (fa fb : List (List Bool)) (pa pb : List Bool) : Bool := (List.range pa.length).all (Gr fa fb pa pb)
theorem EU (fa fb:List (List Bool)) (pa pb:List Bool):Hb fa fb pa pb = true ↔ ∀ l,l < pa.length → (pa[l]! = true → pb[l]! = true) ∧ ∀ v,v < fa.length → fa[v]![l]! = true → fb[v]![l]! = true:=by
 unfold Hb Gr HP
 simp only [List.all_eq_true,List.mem_range,Bool.and_eq_true,Bool.or_eq_true,Bool.not_eq_true']
 constructor
 ·intro h l hl
  obtain ⟨h1,h2⟩ := h l hl
  refine ⟨fun hp => ?_,fun v hv hf => ?_⟩
  ·rcases h1 with h1 | h1
   ·rw [h1] at hp;cases hp
   ·exact h1
  ·rcases h2 v hv with h3 | h3
   ·rw [h3] at hf;cases hf
   ·exact h3
 ·intro h l hl
  obtain ⟨h1,h2⟩ := h l hl
  refine ⟨?_,fun v hv => ?_⟩
  ·cases hp : pa[l]! with
   | false => exact .inl rfl
   | true => exact .inr (h1 hp)
  ·cases hp : fa[v]![l]! with
   | false => exact .inl rfl
   | true => exact .inr (h2 v hv hp)
def wF (ts : List Int) (pts : List Pnt) (i : Nat) (fr : List (List Bool)) : List Bool :=
 (List.range pts.length).map fun (l : Nat) => if pts[i]!.op = 3 then fr[pts[i]!.y.toNat]![l]! else b9 pts[i]! && (decide (l = i) || (kQ ts[pts[i]!.y.toNat]! && fr[pts[i]!.y.toNat]![l]!))
def qT (ts : List Int) (pts : List Pnt) (i : Nat) (fr : List (List Bool)) : List (List Bool) :=
 (List.range ts.length).map fun (v : Nat) => if aQ pts[i]! = (v : Int) then wF ts pts i fr else if aV ts pts[i]! v = 2 then List.replicate pts.length false else fr[v]!
def uR (pts : List Pnt) (v : Int) (pl : List Bool) : List Bool := (List.range pl.length).map fun (l : Nat) => pl[l]! && !(b9 pts[l]! && decide (pts[l]!.y = v))
def qS (ts : List Int) (pts : List Pnt) (i : Nat) (pl : List Bool) : List Bool :=
 (List.range pts.length).map fun (l : Nat) => (b9 pts[i]! && decide (l = i)) || (pl[l]! && !(b9 pts[l]! && (decide (aV ts pts[i]! pts[l]!.y = 2) || decide (aQ pts[i]! = pts[l]!.y))))
theorem j7 (ts:List Int) (pts:List Pnt) (i:Nat) (fr:List (List Bool)):(wF ts pts i fr).length = pts.length := by simp [wF]
theorem eG (ts:List Int) (pts:List Pnt) (i:Nat) (fr:List (List Bool)):(qT ts pts i fr).length = ts.length := by simp [qT]
theorem cR (ts:List Int) (pts:List Pnt) (i:Nat) (pl:List Bool):(qS ts pts i pl).length = pts.length := by simp [qS]
theorem Aj (pts:List Pnt) (v:Int) (pl:List Bool):(uR pts v pl).length = pl.length := by simp [uR]
theorem jZ (ts:List Int) (pts:List Pnt) (i:Nat) (fr:List (List Bool)) (l:Nat) (h:l < pts.length):(wF ts pts i fr)[l]! = if pts[i]!.op = 3 then fr[pts[i]!.y.toNat]![l]! else b9 pts[i]! && (decide (l = i) || (kQ ts[pts[i]!.y.toNat]! && fr[pts[i]!.y.toNat]![l]!)) := bQ _ _ _ h
theorem lR (ts:List Int) (pts:List Pnt) (i:Nat) (fr:List (List Bool)) (v:Nat) (h:v < ts.length):(qT ts pts i fr)[v]! = if aQ pts[i]! = (v:Int) then wF ts pts i fr else if aV ts pts[i]! v = 2 then List.replicate pts.length false else fr[v]! := bQ _ _ _ h
theorem nY (ts:List Int) (pts:List Pnt) (i:Nat) (pl:List Bool) (l:Nat) (h:l < pts.length):(qS ts pts i pl)[l]! = ((b9 pts[i]! && decide (l = i)) || (pl[l]! && !(b9 pts[l]! && (decide (aV ts pts[i]! pts[l]!.y = 2) || decide (aQ pts[i]! = pts[l]!.y))))) := bQ _ _ _ h
theorem Ax (pts:List Pnt) (v:Int) (pl:List Bool) (l:Nat) (h:l < pl.length):(uR pts v pl)[l]! = (pl[l]! && !(b9 pts[l]! && decide (pts[l]!.y = v))) := bQ _ _ _ h
theorem oX {b:List Bool}{l:Nat}(h:b[l]! = true):l < b.length:=by
 apply Classical.byContradiction;intro hc
 rw [getElem!_neg b l hc] at h;cases h
def k4 (nv : Nat) (R : List (List Bool)) (n : Nat) : List (List Bool) := (R.drop (n * (nv + 1))).take nv
def lL (nv : Nat) (R : List (List Bool)) (n : Nat) : List Bool := R[n * (nv + 1) + nv]!
theorem iI {nv N n v:Nat}{R:List (List Bool)}(hl:R.length = N * (nv + 1)) (hn:n < N) (hv:v < nv):(k4 nv R n)[v]! = R[n * (nv + 1) + v]!:=by
 have h1 : (n + 1) * (nv + 1) ≤ N * (nv + 1) := Nat.mul_le_mul_right _ hn
 rw [Nat.add_mul,Nat.one_mul] at h1
 unfold k4
 rw [aY _ _ (by rw [List.length_take,List.length_drop]; omega),aY _ _ (by omega),List.getElem_take,List.getElem_drop]
theorem tT {nv N n:Nat}{R:List (List Bool)}(hl:R.length = N * (nv + 1)) (hn:n < N):(k4 nv R n).length = nv:=by
 have h1 : (n + 1) * (nv + 1) ≤ N * (nv + 1) := Nat.mul_le_mul_right _ hn
 rw [Nat.add_mul,Nat.one_mul] at h1
 unfold k4
 rw [List.length_take,List.length_drop]; omega
theorem gX {nv N n v:Nat}(hn:n < N) (hv:v < nv + 1):n * (nv + 1) + v < N * (nv + 1):=by
 have h1 : (n + 1) * (nv + 1) ≤ N * (nv + 1) := Nat.mul_le_mul_right _ hn
 rw [Nat.add_mul,Nat.one_mul] at h1
 omega
structure FSd (ts : List Int) (pts : List Pnt) (R : List (List Bool)) : Prop where
 lo : R.length = pts.length * (ts.length + 1)
 ro : ∀ q,q < R.length → R[q]!.length = pts.length
 f : ∀ n v l,n < pts.length → v < ts.length → R[n * (ts.length + 1) + v]![l]! = true → Lk ts pts (n,v,l)
 p : ∀ n l,n < pts.length → R[n * (ts.length + 1) + ts.length]![l]! = true → Oe ts pts (n,l)
theorem FSd.aft {ts:List Int}{pts:List Pnt}(w:WG ts pts){R:List (List Bool)}(h:FSd ts pts R){i n:Nat}(e:cO pts i n) :
  (∀ v l,v < ts.length → (qT ts pts i (k4 ts.length R i))[v]![l]! = true → Lk ts pts (n,v,l)) ∧ (∀ l,(qS ts pts i (lL ts.length R i))[l]! = true → Oe ts pts (n,l)) := by
 have hi := e.1
 have hfr : ∀ v l, v < ts.length → (k4 ts.length R i)[v]![l]! = true → Lk ts pts (i, v, l) := fun v l hv hr => by
  rw [iI h.lo hi hv] at hr;exact h.f i v l hi hv hr
 refine ⟨fun v l hv hr => ?_,fun l hr => ?_⟩
 ·rw [lR _ _ _ _ _ hv] at hr
  split at hr
  ·rename_i hs
   have hl := oX hr
   rw [j7] at hl
   rw [jZ _ _ _ _ _ hl] at hr
   have hy := w.y i hi
   split at hr
   ·rename_i h3
    have hyv : pts[i]!.y.toNat < ts.length := by omega
    exact .step (hfr _ l hyv hr) ⟨rfl,e,.inr ⟨hs,by show ((pts[i]!.y.toNat : Nat) : Int) = pts[i]!.y;omega,.inr h3⟩⟩
   ·simp only [Bool.and_eq_true, Bool.or_eq_true, decide_eq_true_eq] at hr
    obtain ⟨h1,h2⟩ := hr
    have hop := pI h1
    rcases h2 with rfl | ⟨h2,h3⟩
    ·exact .base ⟨e,h1,hs⟩
    ·have hyv : pts[i]!.y.toNat < ts.length := by omega
     exact .step (hfr _ l hyv h3) ⟨rfl,e,.inr ⟨hs,by show ((pts[i]!.y.toNat : Nat) : Int) = pts[i]!.y;omega,.inl ⟨h1,h2⟩⟩⟩
  ·rename_i hs
   split at hr
   ·have hl := oX hr
    rw [List.length_replicate] at hl
    rw [dN _ _ _ hl] at hr;cases hr
   ·rename_i h2
    exact .step (hfr v l hv hr) ⟨rfl,e,.inl ⟨hs,rfl,h2⟩⟩
 ·have hl := oX hr
  rw [cR] at hl
  rw [nY _ _ _ _ _ hl] at hr
  simp only [Bool.and_eq_true,Bool.or_eq_true,decide_eq_true_eq,Bool.not_eq_true',Bool.and_eq_false_iff,Bool.or_eq_false_iff,decide_eq_false_iff_not] at hr
  rcases hr with ⟨h1,rfl⟩ | ⟨h1,h2⟩
  ·exact .base ⟨e,h1⟩
  ·have hP := h.p i l hi h1
   rcases h2 with h2 | ⟨h2,h3⟩
   ·rw [(v7 hP).2] at h2;cases h2
   ·exact .step hP ⟨rfl,e,h2,h3⟩
def Ch (R : List (List Bool)) (b nv : Nat) (fa : List (List Bool)) (pa : List Bool) (v : Nat) : List (List Bool) :=
 (List.range R.length).map fun (q : Nat) => if q = b + nv then iD R[q]! pa else if b ≤ q ∧ q < b + v then iD R[q]! fa[q - b]! else R[q]!
theorem fQ (R:List (List Bool)) (b nv:Nat) (fa:List (List Bool)) (pa:List Bool) (v:Nat):(Ch R b nv fa pa v).length = R.length := by simp [Ch]
theorem gJ (R:List (List Bool)) (b nv:Nat) (fa:List (List Bool)) (pa:List Bool) (v q:Nat) (h:q < R.length):(Ch R b nv fa pa v)[q]! = if q = b + nv then iD R[q]! pa else if b ≤ q ∧ q < b + v then iD R[q]! fa[q - b]! else R[q]! := bQ _ _ _ h
theorem Je {R:List (List Bool)}{b nv:Nat}{fa:List (List Bool)}{pa:List Bool}(hb:b + nv < R.length):R.set (b + nv) (iD R[b + nv]! pa) = Ch R b nv fa pa 0:=by
 refine bT (by rw [fQ]; simp) fun q hq => ?_
 rw [List.length_set] at hq
 rw [gJ _ _ _ _ _ _ _ hq,aW]
 by_cases e : q = b + nv
 ·subst e;rw [if_pos ⟨rfl,hq⟩,if_pos rfl]
 ·rw [if_neg (fun h => e h.1.symm),if_neg e,if_neg (by omega)]
theorem Ib {R:List (List Bool)}{b nv v:Nat}{fa:List (List Bool)}{pa:List Bool}(hb:b + nv < R.length) (hv:v < nv):(Ch R b nv fa pa v).set (b + v) (iD (Ch R b nv fa pa v)[b + v]! fa[v]!) = Ch R b nv fa pa (v + 1):=by
 have e0 : (Ch R b nv fa pa v)[b + v]! = R[b + v]! := by rw [gJ _ _ _ _ _ _ _ (by omega),if_neg (by omega),if_neg (by omega)]
 rw [e0]
 refine bT (by rw [fQ]; simp [fQ]) fun q hq => ?_
 rw [List.length_set,fQ] at hq
 rw [gJ _ _ _ _ _ _ _ hq,aW,gJ _ _ _ _ _ _ _ hq,fQ]
 by_cases e : q = b + v
 ·subst e
  rw [if_pos ⟨rfl,hq⟩,if_neg (by omega),if_pos (by omega),Nat.add_sub_cancel_left]
 ·rw [if_neg (fun h => e h.1.symm)]
  by_cases e2 : q = b + nv
  ·rw [if_pos e2,if_pos e2]
  ·rw [if_neg e2, if_neg e2]
   by_cases e3 : b ≤ q ∧ q < b + v
   ·rw [if_pos e3,if_pos (by omega)]
   ·rw [if_neg e3,if_neg (by omega)]
def Rx (ts : List Int) (pts : List Pnt) (R : List (List Bool)) : Nat := Oa pts.length (pts.length * (ts.length + 1)) R
structure FS (ts : List Int) (pts : List Pnt) (R0 R : List (List Bool)) (c : Bool) (D : Nat → Nat → Prop) : Prop where
 d : FSd ts pts R
 dec : c = true → Rx ts pts R < Rx ts pts R0
 same : c = false → R = R0 ∧ ∀ i k, i < pts.length → k < pts[i]!.next.length → D i k →
  Hb (qT ts pts i (k4 ts.length R i)) (k4 ts.length R (pts[i]!.next[k]!).toNat) (qS ts pts i (lL ts.length R i)) (lL ts.length R (pts[i]!.next[k]!).toNat) = true
theorem FS.mono {ts:List Int}{pts:List Pnt}{R0 R:List (List Bool)}{c:Bool}{D D':Nat → Nat → Prop}(h:FS ts pts R0 R c D) (k:∀ i k,i < pts.length → k < pts[i]!.next.length → D' i k → D i k):FS ts pts R0 R c D' :=
 ⟨h.d,h.dec,fun hc => ⟨(h.same hc).1,fun i q hi hq hd => (h.same hc).2 i q hi hq (k i q hi hq hd)⟩⟩
theorem FS.skip {ts:List Int}{pts:List Pnt}{R0 R R1:List (List Bool)}{c:Bool}{D D':Nat → Nat → Prop}(h:FS ts pts R0 R c D){i k:Nat}(h1:c = false → R = R1)
  (hw : Hb (qT ts pts i (k4 ts.length R1 i)) (k4 ts.length R (pts[i]!.next[k]!).toNat) (qS ts pts i (lL ts.length R1 i)) (lL ts.length R (pts[i]!.next[k]!).toNat) = true)
  (hD : ∀ i' k',i' < pts.length → k' < pts[i']!.next.length → D' i' k' → D i' k' ∨ (i' = i ∧ k' = k)) : FS ts pts R0 R c D' :=
 ⟨h.d, h.dec, fun hc => ⟨(h.same hc).1, fun i' q hi hq hd => by
  rcases hD i' q hi hq hd with h2 | ⟨rfl,rfl⟩
  ·exact (h.same hc).2 i' q hi hq h2
  ·have := h1 hc;subst this;exact hw⟩⟩
theorem FS.hit {ts:List Int}{pts:List Pnt}(w:WG ts pts){R0 R R1:List (List Bool)}{c:Bool}{D:Nat → Nat → Prop}(D':Nat → Nat → Prop) (h:FS ts pts R0 R c D) (h1:FSd ts pts R1){i k:Nat}(hi:i < pts.length) (hk:k < pts[i]!.next.length)
  (hw : Hb (qT ts pts i (k4 ts.length R1 i)) (k4 ts.length R (pts[i]!.next[k]!).toNat) (qS ts pts i (lL ts.length R1 i)) (lL ts.length R (pts[i]!.next[k]!).toNat) = false) :
  FS ts pts R0 (Ch R ((pts[i]!.next[k]!).toNat * (ts.length + 1)) ts.length (qT ts pts i (k4 ts.length R1 i)) (qS ts pts i (lL ts.length R1 i)) ts.length) true D' := by
 have e := CH w hi hk
 have hn := cZ w e
 obtain ⟨hf,hp⟩ := h1.aft w e
 generalize hnn : (pts[i]!.next[k]!).toNat = n at *
 have hlo := h.d.lo
 have hix : n * (ts.length + 1) + ts.length < R.length := by rw [hlo]; exact gX hn (by omega)
 have hlen : ∀ q, q < R.length → (Ch R (n * (ts.length + 1)) ts.length (qT ts pts i (k4 ts.length R1 i)) (qS ts pts i (lL ts.length R1 i)) ts.length)[q]!.length = pts.length := by
  intro q hq
  rw [gJ _ _ _ _ _ _ _ hq]
  split
  ·rw [gH]; exact h.d.ro q hq
  ·split
   ·rw [gH]; exact h.d.ro q hq
   ·exact h.d.ro q hq
 have hmul : ∀ a b : Nat,a * (ts.length + 1) + ts.length = b * (ts.length + 1) + ts.length → a = b := fun a b q => Nat.eq_of_mul_eq_mul_right (Nat.succ_pos ts.length) (Nat.add_right_cancel q)
 have hmono : ∀ q, q < R.length → ∀ l, l < pts.length → R[q]![l]! = true → (Ch R (n * (ts.length + 1)) ts.length (qT ts pts i (k4 ts.length R1 i)) (qS ts pts i (lL ts.length R1 i)) ts.length)[q]![l]! = true := by
  intro q hq l hl hr
  have hro := h.d.ro q hq
  rw [gJ _ _ _ _ _ _ _ hq]
  split
  ·rw [fA _ _ _ (by omega),hr]; rfl
  ·split
   ·rw [fA _ _ _ (by omega),hr]; rfl
   ·exact hr
 refine ⟨⟨by rw [fQ]; exact hlo,fun q hq => by rw [fQ] at hq;exact hlen q hq,fun m v l hm hv hr => ?_,fun m l hm hr => ?_⟩,fun _ => ?_,fun hc => by cases hc⟩
 ·have hq : m * (ts.length + 1) + v < R.length := by rw [hlo]; exact gX hm (by omega)
  have hl := oX hr
  rw [hlen _ hq] at hl
  rw [gJ _ _ _ _ _ _ _ hq] at hr
  split at hr
  ·rename_i q
   exfalso
   rcases Nat.lt_trichotomy m n with h3|h3|h3
   ·have : (m + 1) * (ts.length + 1) ≤ n * (ts.length + 1) := Nat.mul_le_mul_right _ h3
    rw [Nat.add_mul,Nat.one_mul] at this;omega
   ·subst h3;omega
   ·have : (n + 1) * (ts.length + 1) ≤ m * (ts.length + 1) := Nat.mul_le_mul_right _ h3
    rw [Nat.add_mul,Nat.one_mul] at this;omega
  ·split at hr
   ·rename_i q
    have hmn : m = n := by
     rcases Nat.lt_trichotomy m n with h3|h3|h3
     ·have : (m + 1) * (ts.length + 1) ≤ n * (ts.length + 1) := Nat.mul_le_mul_right _ h3
      rw [Nat.add_mul,Nat.one_mul] at this;omega
     ·exact h3
     ·have : (n + 1) * (ts.length + 1) ≤ m * (ts.length + 1) := Nat.mul_le_mul_right _ h3
      rw [Nat.add_mul,Nat.one_mul] at this;omega
    subst hmn
    rw [Nat.add_sub_cancel_left,fA _ _ _ (by rw [h.d.ro _ hq]; exact hl)] at hr
    simp only [Bool.or_eq_true,Bool.and_eq_true] at hr
    rcases hr with hr | ⟨_,hr⟩
    ·exact h.d.f _ v l hm hv hr
    ·exact hf v l hv hr
   ·exact h.d.f m v l hm hv hr
 ·have hq : m * (ts.length + 1) + ts.length < R.length := by rw [hlo]; exact gX hm (by omega)
  have hl := oX hr
  rw [hlen _ hq] at hl
  rw [gJ _ _ _ _ _ _ _ hq] at hr
  split at hr
  ·rename_i q
   have := hmul _ _ q
   subst this
   rw [fA _ _ _ (by rw [h.d.ro _ hq]; exact hl)] at hr
   simp only [Bool.or_eq_true,Bool.and_eq_true] at hr
   rcases hr with hr | ⟨_,hr⟩
   ·exact h.d.p _ l hm hr
   ·exact hp l hr
  ·split at hr
   ·rename_i q
    exfalso
    rcases Nat.lt_trichotomy m n with h3|h3|h3
    ·have : (m + 1) * (ts.length + 1) ≤ n * (ts.length + 1) := Nat.mul_le_mul_right _ h3
     rw [Nat.add_mul,Nat.one_mul] at this;omega
    ·subst h3;omega
    ·have : (n + 1) * (ts.length + 1) ≤ m * (ts.length + 1) := Nat.mul_le_mul_right _ h3
     rw [Nat.add_mul,Nat.one_mul] at this;omega
   ·exact h.d.p m l hm hr
 ·-- one more entry
  have hlt : Rx ts pts (Ch R (n * (ts.length + 1)) ts.length (qT ts pts i (k4 ts.length R1 i)) (qS ts pts i (lL ts.length R1 i)) ts.length) < Rx ts pts R := by
   have hc2 : ¬ ∀ l, l < (qS ts pts i (lL ts.length R1 i)).length → ((qS ts pts i (lL ts.length R1 i))[l]! = true → (lL ts.length R n)[l]! = true) ∧ ∀ v, v < (qT ts pts i (k4 ts.length R1 i)).length → (qT ts pts i (k4 ts.length R1 i))[v]![l]! = true → (k4 ts.length R n)[v]![l]! = true := by
    intro hall
    rw [(EU _ _ _ _).2 hall] at hw;cases hw
   apply Classical.byContradiction
   intro hnl
   refine hc2 fun l hl => ?_
   rw [cR] at hl
   have hmon := fun q (hq : q < pts.length * (ts.length + 1)) => yH (nv := pts.length) (hmono q (by omega))
   refine ⟨fun ha => ?_,fun v hv ha => ?_⟩
   ·apply Classical.byContradiction
    intro hb
    rw [Bool.not_eq_true] at hb
    unfold lL at hb
    refine hnl (Dg hmon (i := n * (ts.length + 1) + ts.length) (by omega) (zJ (hmono _ hix) hl hb ?_))
    rw [gJ _ _ _ _ _ _ _ hix,if_pos rfl,fA _ _ _ (by rw [h.d.ro _ hix]; exact hl),ha,cR,decide_eq_true hl]; simp
   ·rw [eG] at hv
    have hq : n * (ts.length + 1) + v < R.length := by rw [hlo]; exact gX hn (by omega)
    apply Classical.byContradiction
    intro hb
    rw [Bool.not_eq_true,iI hlo hn hv] at hb
    refine hnl (Dg hmon (i := n * (ts.length + 1) + v) (by omega) (zJ (hmono _ hq) hl hb ?_))
    rw [gJ _ _ _ _ _ _ _ hq,if_neg (by omega),if_pos (by omega),Nat.add_sub_cancel_left,fA _ _ _ (by rw [h.d.ro _ hq]; exact hl),ha]
    rw [decide_eq_true (oX ha)]; simp
  cases hc : c with
  | true => have := h.dec hc;omega
  | false => rw [← (h.same hc).1]; exact hlt
structure FH (ts : List Int) (pts : List Pnt) (R : List (List Bool)) (c : Bool) : Prop where
 d : FSd ts pts R
 cl : c = false → ∀ i k, i < pts.length → k < pts[i]!.next.length →
  Hb (qT ts pts i (k4 ts.length R i)) (k4 ts.length R (pts[i]!.next[k]!).toNat) (qS ts pts i (lL ts.length R i)) (lL ts.length R (pts[i]!.next[k]!).toNat) = true
def DF (j kk : Nat) (i k : Nat) : Prop := i < j ∨ (i = j ∧ k < kk)
theorem FH.start {ts:List Int}{pts:List Pnt}{R:List (List Bool)}{c:Bool}(h:FH ts pts R c):FS ts pts R R false (DF 0 0) :=
 ⟨h.d,fun hc => (by cases hc),fun _ => ⟨rfl,fun i k hi hk hd => by unfold DF at hd;omega⟩⟩
theorem FH.init (ts:List Int) (pts:List Pnt):FH ts pts (List.replicate (pts.length * (ts.length + 1)) (List.replicate pts.length false)) true:=by
 have h0 : ∀ q l : Nat, (List.replicate (pts.length * (ts.length + 1)) (List.replicate pts.length false) : List (List Bool))[q]![l]! ≠ true := by
  intro q l h
  have h1 := oX h
  by_cases hq : q < pts.length * (ts.length + 1)
  ·rw [dN _ _ _ hq] at h h1
   rw [List.length_replicate] at h1
   rw [dN _ _ _ h1] at h;cases h
  ·rw [getElem!_neg _ q (by simpa using hq)] at h1
   exact absurd h1 (Nat.not_lt_zero _)
 exact ⟨⟨by simp,fun q hq => (by rw [dN _ _ _ (by simpa using hq)]; simp),fun n v l _ _ h => absurd h (h0 _ _),fun n l _ h => absurd h (h0 _ _)⟩,fun h => (by cases h)⟩
def RB (ts : List Int) (pts : List Pnt) (R : List (List Bool)) (c : Bool) : Nat := 2 * Rx ts pts R + (if c = true then 1 else 0)
theorem FS.fin {ts:List Int}{pts:List Pnt}{R0 R:List (List Bool)}{c:Bool}{j:Nat}(hz:pts.length ≤ j) (h:FS ts pts R0 R c (DF j 0)):FH ts pts R c ∧ RB ts pts R c < RB ts pts R0 true:=by
 refine ⟨⟨h.d,fun hc i k hi hk => (h.same hc).2 i k hi hk (.inl (by omega))⟩,?_⟩
 unfold RB
 cases hc : c with
 | true => have := h.dec hc;simp only [if_true]; omega
 | false => rw [(h.same hc).1]; simp
def iX (nv N : Nat) (Af Ap : List Nat) (n : Nat) : List (List Bool) × List Bool := ((List.range nv).map fun (v : Nat) => (List.range N).map fun (l : Nat) => Af[n * 6 + v]!.testBit l,(List.range N).map fun (l : Nat) => Ap[n]!.testBit l)
theorem FH.final {ts:List Int}{pts:List Pnt}(w:WG ts pts){R:List (List Bool)}{Af Ap:List Nat}(hAf:sQ ts pts Af) (hAp:sR ts pts Ap) (h:FH ts pts R false) :
  ∀ n,n < pts.length → k4 ts.length R n = (iX ts.length pts.length Af Ap n).1 ∧ lL ts.length R n = (iX ts.length pts.length Af Ap n).2 := by
 have htl := w.tl
 have hcl : ∀ {i n : Nat}, cO pts i n → ∀ l, l < (qS ts pts i (lL ts.length R i)).length → ((qS ts pts i (lL ts.length R i))[l]! = true → (lL ts.length R n)[l]! = true) ∧ ∀ v, v < (qT ts pts i (k4 ts.length R i)).length → (qT ts pts i (k4 ts.length R i))[v]![l]! = true → (k4 ts.length R n)[v]![l]! = true := by
  intro i n e
  obtain ⟨k,hk,hkn⟩ := Ad e
  have := (EU _ _ _ _).1 (h.cl rfl i k e.1 hk)
  rw [hkn] at this
  exact this
 have kf : ∀ a : Nat × Nat × Nat, Lk ts pts a → (a.1 < pts.length ∧ a.2.1 < ts.length ∧ a.2.2 < pts.length ∧ R[a.1 * (ts.length + 1) + a.2.1]![a.2.2]! = true) := by
  refine Clo.sub (T := fun a : Nat × Nat × Nat => a.1 < pts.length ∧ a.2.1 < ts.length ∧ a.2.2 < pts.length ∧ R[a.1 * (ts.length + 1) + a.2.1]![a.2.2]! = true) ?_ ?_
  ·rintro ⟨n, v, l⟩ ⟨e, hln, hs⟩
   dsimp only at e hln hs ⊢
   have hv : v < ts.length := by have := (w.set l e.1).1;omega
   have hn := cZ w e
   refine ⟨hn,hv,e.1,?_⟩
   have := (hcl e l (by rw [cR]; exact e.1)).2 v (by rw [eG]; exact hv) (by
    rw [lR _ _ _ _ _ hv,if_pos hs,jZ _ _ _ _ _ e.1,hln]
    have := pI hln
    rw [if_neg (by omega)]; simp)
   rwa [iI h.d.lo hn hv] at this
  ·rintro ⟨i, v, l⟩ ⟨n, v', l'⟩ ⟨hi, hv, hl, hr⟩ ⟨rfl, e, hor⟩
   dsimp only at hi hv hl hr e hor ⊢
   have hn := cZ w e
   rcases hor with ⟨hs,rfl,hu⟩ | ⟨hs,hy,hc⟩
   ·refine ⟨hn, hv, hl, ?_⟩
    have := (hcl e _ (by rw [cR]; exact hl)).2 _ (by rw [eG]; exact hv) (by
     rw [lR _ _ _ _ _ hv,if_neg hs,if_neg hu,iI h.d.lo hi hv]; exact hr)
    rwa [iI h.d.lo hn hv] at this
   ·have hv' : v' < ts.length := by have := (w.set i hi).1; omega
    refine ⟨hn,hv',hl,?_⟩
    have hyv : pts[i]!.y.toNat = v := by omega
    have := (hcl e _ (by rw [cR]; exact hl)).2 v' (by rw [eG]; exact hv') (by
     rw [lR _ _ _ _ _ hv',if_pos hs,jZ _ _ _ _ _ hl,hyv,iI h.d.lo hi hv,hr]
     rcases hc with ⟨h1,h2⟩|h1
     ·have := pI h1
      rw [if_neg (by omega),h1,h2]; simp
     ·rw [if_pos h1])
    rwa [iI h.d.lo hn hv'] at this
 have kp : ∀ a : Nat × Nat, Oe ts pts a → (a.1 < pts.length ∧ a.2 < pts.length ∧ R[a.1 * (ts.length + 1) + ts.length]![a.2]! = true) := by
  refine Clo.sub (T := fun a : Nat × Nat => a.1 < pts.length ∧ a.2 < pts.length ∧ R[a.1 * (ts.length + 1) + ts.length]![a.2]! = true) ?_ ?_
  ·rintro ⟨n, l⟩ ⟨e, hln⟩
   dsimp only at e hln ⊢
   refine ⟨cZ w e,e.1,?_⟩
   exact (hcl e l (by rw [cR]; exact e.1)).1 (by rw [nY _ _ _ _ _ e.1,hln]; simp)
  ·rintro ⟨i, l⟩ ⟨n, l'⟩ ⟨hi, hl, hr⟩ ⟨rfl, e, hu, hs⟩
   dsimp only at hi hl hr e hu hs ⊢
   refine ⟨cZ w e,hl,?_⟩
   refine (hcl e _ (by rw [cR]; exact hl)).1 ?_
   have hr' : (lL ts.length R i)[l']! = true := hr
   rw [nY _ _ _ _ _ hl,hr',decide_eq_false hu,decide_eq_false hs]; simp
 intro n hn
 refine ⟨?_,?_⟩
 ·refine bT (by rw [tT h.d.lo hn]; simp [iX]) fun v hv => ?_
  rw [tT h.d.lo hn] at hv
  have hq : n * (ts.length + 1) + v < R.length := by rw [h.d.lo]; exact gX hn (by omega)
  rw [iI h.d.lo hn hv]
  unfold iX
  dsimp only
  rw [bQ _ _ _ hv]
  refine bT (by rw [h.d.ro _ hq]; simp) fun l hl => ?_
  rw [h.d.ro _ hq] at hl
  rw [bQ _ _ _ hl,Bool.eq_iff_iff,hAf.2 n v hn (by omega) l]
  exact ⟨fun hr => h.d.f n v l hn hv hr,fun hk => (kf (n,v,l) hk).2.2.2⟩
 ·have hq : n * (ts.length + 1) + ts.length < R.length := by rw [h.d.lo]; exact gX hn (by omega)
  unfold lL iX
  dsimp only
  refine bT (by rw [h.d.ro _ hq]; simp) fun l hl => ?_
  rw [h.d.ro _ hq] at hl
  rw [bQ _ _ _ hl,Bool.eq_iff_iff,hAp.2 n hn l]
  exact ⟨fun hr => h.d.p n l hn hr,fun hk => (kp (n,l) hk).2.2⟩
def Fe (ts : List Int) (x : Pnt) (fr : List (List Bool)) (lv : List Bool) (l v : Nat) : Bool := lv[v]! && (!decide (aQ x = (v : Int)) && (!decide (aV ts x (v : Int) = 2) && fr[v]![l]!))
def HJ (ts : List Int) (x : Pnt) (fr : List (List Bool)) (lv : List Bool) (N : Nat) : List Bool := (List.range N).map fun (l : Nat) => (List.range lv.length).any (Fe ts x fr lv l)
theorem Eg {p q:Nat → Bool}{n:Nat}(h:∀ v,v < n → p v = q v):(List.range n).filter p = (List.range n).filter q :=
 List.filter_congr fun v hv => h v (List.mem_range.1 hv)
theorem B7 {A n:Nat}{p:Nat → Bool}(hA:Sm A) (hn:n ≤ 62) (h:∀ v,A.testBit v = (decide (v < n) && p v)):a7 A = ((List.range n).filter p).map (fun v:Nat => (v:Int)):=by
 rw [rN (k := n) (fun v hv => by rw [h v,decide_eq_false (by omega)]; rfl) (by omega) hA]
 congr 1
 exact Eg fun v hv => by rw [h v,decide_eq_true hv]; rfl
def HC (ts : List Int) (pts : List Pnt) (Aa : List Nat) (i v : Nat) : Bool := !decide (aV ts pts[i]! v = 0) && !Aa[i]!.testBit v
def Lp (pts : List Pnt) (l : Nat) : Int := if pts[l]!.op = 5 then 3 else 2
def PR (ts : List Int) (pts : List Pnt) (Aa : List Nat) (cf : List Bool) (i : Nat) : List Iss :=
 ((List.range ts.length).filter (HC ts pts Aa i)).map (fun (v : Nat) => ⟨i,1,v⟩) ++ ((List.range pts.length).filter (fun (l : Nat) => cf[l]!)).map (fun (l : Nat) => ⟨i,Lp pts l,l⟩)
def Lj (ts : List Int) (pts : List Pnt) (Am Al Af Ap : List Nat) (i : Nat) : List Bool :=
 Ql pts (kC ts pts[i]! (dV ts.length pts.length Am)[i]![(aQ pts[i]!).toNat]!) (iX ts.length pts.length Af Ap i).2 (HJ ts pts[i]! (iX ts.length pts.length Af Ap i).1 (dV ts.length pts.length Al)[i]! pts.length)
theorem OY {ts:List Int}{x:Pnt}{m m':Bool}(h:0 ≤ aQ x → m = m'):kC ts x m = kC ts x m':=by
 unfold kC
 by_cases h0 : 0 ≤ aQ x
 ·rw [h h0]
 ·simp only [h0,false_and,if_false]
theorem N1 {ts:List Int}{pts:List Pnt}(w:WG ts pts) (f:Flows ts pts){Af:List Nat}(hlf:Af.length = pts.length * 6){i:Nat}(hi:i < pts.length):PR ts pts f.Aa (Lj ts pts f.Am f.Al Af f.Ap i) i = G6 ts pts f.Aa f.Am f.Al Af f.Ap i:=by
 have htl := w.tl
 have hpl := w.pl
 have hset := w.set i hi
 unfold PR G6
 congr 1
 ·unfold Hk
  have hsm : Sm (oJ (wS ts pts[i]! [1, 2, 3]) f.Aa[i]!) := by
   have : Sm (wS ts pts[i]! [1,2,3]) := b0 (by omega)
   infer_instance
  rw [B7 (n := ts.length) (p := HC ts pts f.Aa i) hsm (by omega) fun v => ?_,List.map_map]
  ·rfl
  ·rw [c8, cC, Bool.and_assoc]
   congr 1
   unfold HC
   congr 1
   have hu := pV ts pts[i]! v
   by_cases e : aV ts pts[i]! v = 0
   ·rw [e]; rfl
   ·rw [decide_eq_false e]
    have : aV ts pts[i]! v ∈ ([1, 2, 3] : List Int) := by
     simp only [List.mem_cons,List.not_mem_nil,or_false]; omega
    rw [decide_eq_true this]; rfl
 ·unfold Ha
  have hap : f.Ap[i]! < 2 ^ pts.length := by
   apply Nat.lt_pow_two_of_testBit
   intro l hl
   rw [Bool.eq_false_iff]; intro hq
   have := (v7 ((f.gp.2 i hi l).1 hq)).1
   dsimp only at this;omega
  have hcn := DQ w (Am := f.Am) (Al := f.Al) (Af := Af) hap
  have hsm : Sm (Mq ts pts f.Am f.Al Af f.Ap i) := ⟨Nat.lt_of_lt_of_le hcn (Nat.pow_le_pow_right (by decide) (by omega))⟩
  rw [B7 (n := pts.length) (p := fun l => (Lj ts pts f.Am f.Al Af f.Ap i)[l]!) hsm (by omega) fun l => ?_,List.map_map]
  ·rfl
  ·by_cases hl : l < pts.length
   ·rw [decide_eq_true hl, Bool.true_and, Bool.eq_iff_iff]
    have hloans : Sm (Be ts pts[i]! f.Al[i]! (dG Af i) &&& f.Ap[i]!) := ⟨Nat.lt_of_lt_of_le (Nat.and_lt_two_pow _ hap) (Nat.pow_le_pow_right (by decide) (by omega))⟩
    have hal : f.Al[i]! < 2 ^ ts.length := by
     apply Nat.lt_pow_two_of_testBit
     intro v hv
     rw [Bool.eq_false_iff]; intro hq
     obtain ⟨k,e,hk⟩ := (f.gl.2 i hi v).1 hq
     have := uO w hk
     dsimp only at this;omega
    have hacc : kC ts pts[i]! (dV ts.length pts.length f.Am)[i]![(aQ pts[i]!).toNat]! = kC ts pts[i]! (f.Am[i]!.testBit (aQ pts[i]!).toNat) := OY fun h0 => nW _ _ _ _ _ hi (by omega)
    have hkp : (Be ts pts[i]! f.Al[i]! (dG Af i)).testBit l = true ↔ (HJ ts pts[i]! (iX ts.length pts.length Af f.Ap i).1 (dV ts.length pts.length f.Al)[i]! pts.length)[l]! = true := by
     unfold HJ
     rw [bQ _ _ _ hl]
     unfold Be
     rw [kP,List.any_eq_true,hZ _ _ _ _ hi]
     simp only [Nat.zero_testBit,Bool.false_eq_true,false_or,List.length_map,List.length_range,List.mem_range]
     constructor
     ·rintro ⟨z, hz, h2⟩
      obtain ⟨v,h3,h4,rfl⟩ := cJ.1 hz
      rw [c8,Nat.testBit_or,cC,gT (by omega)] at h4
      simp only [Bool.and_eq_true,Bool.not_eq_true',Bool.or_eq_false_iff,Bool.and_eq_false_iff,decide_eq_false_iff_not] at h4
      have hv := cT hal h4.1
      refine ⟨v,hv,?_⟩
      unfold Fe
      rw [bQ _ _ _ hv,h4.1,decide_eq_false h4.2.2]
      have hu : ¬ aV ts pts[i]! v = 2 := by
       rcases h4.2.1 with h5|h5
       ·exact absurd hv h5
       ·simpa using h5
      rw [decide_eq_false hu]
      unfold iX
      dsimp only
      rw [bQ _ _ _ hv,bQ _ _ _ hl]
      have h6 : (dG Af i)[v]! = Af[i * 6 + v]! := fM hlf hi (by omega)
      rw [Int.toNat_natCast,h6] at h2
      rw [h2]; rfl
     ·rintro ⟨v, hv, h2⟩
      unfold Fe at h2
      rw [bQ _ _ _ hv] at h2
      unfold iX at h2
      dsimp only at h2
      rw [bQ _ _ _ hv,bQ _ _ _ hl] at h2
      simp only [Bool.and_eq_true,Bool.not_eq_true',decide_eq_false_iff_not] at h2
      refine ⟨(v : Int),cJ.2 ⟨v,by omega,?_,rfl⟩,?_⟩
      ·rw [c8, Nat.testBit_or, cC, gT (by omega), h2.1, decide_eq_false h2.2.1]
       have : decide (aV ts pts[i]! (v : Int) ∈ ([2] : List Int)) = false := by simpa using h2.2.2.1
       rw [this]; simp
      ·rw [Int.toNat_natCast,fM hlf hi (by omega)]; exact h2.2.2.2
    have hplc : (iX ts.length pts.length Af f.Ap i).2[l]! = f.Ap[i]!.testBit l := by unfold iX;dsimp only;rw [bQ _ _ _ hl]
    unfold Mq Lj
    rw [mV _ _ _ hloans,FF _ _ _ _ _ hl,hacc,List.any_eq_true]
    simp only [Nat.zero_testBit,Bool.false_eq_true,false_or]
    constructor
    ·rintro ⟨c, hc, h1, h2, h3⟩
     rw [Nat.testBit_and,Bool.and_eq_true] at h1
     rw [nG] at h2
     simp only [Bool.and_eq_true,decide_eq_true_eq] at h2
     have hy := rW w hl h2.2.1
     have hcv := EF _ w hi c hc
     refine ⟨c,hc,?_⟩
     unfold Li
     have e2 := h2.2.2
     rw [Nat.testBit_two_pow,decide_eq_true_eq] at e2
     rw [hkp.1 h1.1,hplc,h1.2,decide_eq_true (by omega : pts[l]!.y = c.var)]
     rcases h3 with h3|h3
     ·rw [h3]; rfl
     ·rw [decide_eq_true h3]; simp
    ·rintro ⟨c, hc, h1⟩
     unfold Li at h1
     rw [hplc] at h1
     simp only [Bool.and_eq_true,Bool.or_eq_true,decide_eq_true_eq] at h1
     obtain ⟨⟨⟨h1,h2⟩,h3⟩,h4⟩ := h1
     have hln := (v7 ((f.gp.2 i hi l).1 h2)).2
     dsimp only at hln
     refine ⟨c,hc,?_,?_,h4⟩
     ·rw [Nat.testBit_and,hkp.2 h1,h2]; rfl
     ·rw [nG,decide_eq_true hl,hln,← h3,Nat.testBit_two_pow_self]; rfl
   ·rw [decide_eq_false hl, Bool.false_and]
    exact Nat.testBit_lt_two_pow (Nat.lt_of_lt_of_le hcn (Nat.pow_le_pow_right (by decide) (by omega)))
theorem Dx {ts:List Int}{pts:List Pnt}(w:WG ts pts) (f:Flows ts pts){i:Nat}(hi:i < pts.length):PR ts pts f.Aa (Lj ts pts f.Am f.Al f.Af f.Ap i) i = G6 ts pts f.Aa f.Am f.Al f.Af f.Ap i := N1 w f f.gf.1 hi
def gZ (R : List (List Bool)) : List (Nat × Option (List AV)) := (List.range R.length).map fun k => (k + a6,some (flat cB R[k]!))
theorem BU (g:Nat → List AV) (j:Nat):∀ ks:List Nat,aT (ks.map fun k => (k + a6,some (g k))) (j + a6) = if j ∈ ks then some (g j) else none
 | [] => by simp [aT]
 | k :: ks => by
  rw [List.map_cons,cP,BU g j ks]
  by_cases h : j = k
  ·subst h;simp
  ·rw [if_neg (by omega)]; simp [h]
theorem B9 (g:Nat → List AV) (i:Nat) (hi:i < a6):∀ ks:List Nat,aT (ks.map fun k => (k + a6,some (g k))) i = none
 | [] => by simp [aT]
 | k :: ks => by
  rw [List.map_cons,cP,B9 g i hi ks,if_neg (by omega)]
theorem qE (R:List (List Bool)) (k:Nat):aT (gZ R) (k + a6) = if k < R.length then some (flat cB R[k]!) else none:=by
 unfold gZ;rw [BU (fun k => flat cB R[k]!)]; simp
theorem wB (R:List (List Bool)) (i:Nat) (hi:i < a6):aT (gZ R) i = none := B9 _ i hi _
theorem nJ {R:List (List Bool)}{i:Nat}{cs:List AV}(h:aT (gZ R) i = some cs):∃ k,k < R.length ∧ i = k + a6 ∧ cs = flat cB R[k]!:=by
 rcases Nat.lt_or_ge i a6 with hi|hi
 ·rw [wB R i hi] at h;cases h
 ·obtain ⟨k, rfl⟩ : ∃ k, i = k + a6 := ⟨i - a6, by omega⟩
  rw [qE] at h
  split at h
  ·cases h;exact ⟨k,by assumption,rfl,rfl⟩
  ·cases h
inductive FamR (R R' : List (List Bool)) : List (Nat × Option (List AV)) → List (Nat × Option (List AV)) → Prop
 | here : FamR R R' (gZ R) (gZ R')
 | cons {t : Nat} {v : Option (List AV)} {l l' : List (Nat × Option (List AV))} : Nat.blt t a6 = true → FamR R R' l l' → FamR R R' ((t,v) :: l) ((t,v) :: l')
theorem FamR.nil:FamR [] [] [] [] := FamR.here
theorem FamR.fam {R R':List (List Bool)}{hs hs':List (Nat × Option (List AV))}(h:FamR R R' hs hs') (k:Nat):aT hs (k + a6) = if k < R.length then some (flat cB R[k]!) else none:=by
 induction h with
 | here => exact qE R k
 | cons ht _ ih => rw [cP,if_neg (by have := cS ht;omega)]; exact ih
theorem FamR.symm {R R':List (List Bool)}{hs hs':List (Nat × Option (List AV))}(h:FamR R R' hs hs'):FamR R' R hs' hs:=by
 induction h with
 | here => exact .here
 | cons ht _ ih => exact .cons ht ih
theorem FamR.low {R R':List (List Bool)}{hs hs':List (Nat × Option (List AV))}(h:FamR R R' hs hs') (i:Nat) (hi:i < a6):aT hs i = aT hs' i:=by
 induction h with
 | here => rw [wB R i hi,wB R' i hi]
 | cons ht _ ih => rw [cP,cP,ih]
theorem FamR.get {R R':List (List Bool)}{hs hs':List (Nat × Option (List AV))}(h:FamR R R' hs hs'){k:Nat}(hk:k < R.length):aT hs (k + a6) = some (flat cB R[k]!) := by rw [h.fam,if_pos hk]
theorem KQ {α:Type}[Inhabited α] (xs:List α) (i j:Nat) (x:α):(xs.set i x)[j]! = if i = j ∧ j < xs.length then x else xs[j]! := aW xs i j x
theorem Le.fset {ts:List (Nat × AV)}{hs hs':List (Nat × Option (List AV))}{n:Nat}{z0:Lo}{k:Nat}{r:List Bool}{R:List (List Bool)}(hF:FamR R (R.set k r) hs hs') (hk:k < R.length) :
  Le ⟨ts,(k + a6,some (flat cB r)) :: hs,n,z0⟩ ⟨ts,hs',n,z0⟩ := by
 refine Le.of (fun _ _ h => h) (fun i cs h => ?_) (Nat.le_refl _) rfl
 have h' : aT hs' i = some cs := h
 show aT ((k + a6,some (flat cB r)) :: hs) i = some cs
 rcases Nat.lt_or_ge i a6 with hi|hi
 ·rw [cP,if_neg (by omega),hF.low i hi]; exact h'
 ·obtain ⟨j, rfl⟩ : ∃ j, i = j + a6 := ⟨i - a6, by omega⟩
  rw [hF.symm.fam] at h'
  split at h'
  ·rename_i hj
   rw [List.length_set] at hj
   rw [KQ] at h'
   rw [cP]
   by_cases e : j = k
   ·subst e;rw [if_pos ⟨rfl,hk⟩] at h'; rw [if_pos rfl]; exact h'
   ·rw [if_neg (fun q => e q.1.symm)] at h'
    rw [if_neg (by omega),hF.get hj]; exact h'
  ·cases h'
section
theorem JY {xs:List Bool}{q:Nat}(h:q < xs.length):(flat cB xs).drop q = .v (.bool xs[q]!) :: flat cB (xs.drop (q + 1)):=by
 have := fE cB (e := 1) xs q h
 rw [Nat.mul_one] at this;rw [this]; rfl
theorem KD {t:TypeId}{x:Operand}{k v:Nat}{R:List (List Bool)}[ha:AgT P t false] (hx:ev (lk ts) x = some (.optr (k + a6) (0 + v * 1))) (hF:FamR R R hs hs) (hk:k < R.length) (hv:v < R[k]!.length)
  (hN : Nat.blt d N = true) {md' : Md} [hmd : MdA md (rO x ++ [.inr (k + a6)]) [.inl d] md'] (kk : RW P N all Q md' rest ⟨(d,.v (.bool R[k]![v]!)) :: ts,hs,n,z0⟩) : RW P N all Q md (⟨some d,.load t x,ty,pos,af,none⟩ :: rest) ⟨ts,hs,n,z0⟩ := by
 refine nE (cs := (flat cB R[k]!).drop (0 + v * 1)) (c := .v (.bool R[k]![v]!)) hx ha.pf ?_ ?_ (cS hN) (by rw [← hmd.pf] at kk;exact kk)
 ·simp only [deref,hF.get hk,Option.map_some]
 ·rw [Nat.zero_add,Nat.mul_one,JY hv]; rfl
theorem HI {t:TypeId}{x y:Operand}{k v:Nat}{b:Bool}{R:List (List Bool)}{hs':List (Nat × Option (List AV))}[hz:SzT P t 1] (hx:ev (lk ts) x = some (.optr (k + a6) (0 + v * 1))) (hy:ev (lk ts) y = some (.v (.bool b)))
  (hF : FamR R (R.set k (R[k]!.set v b)) hs hs') (hk : k < R.length) (hv : v < R[k]!.length)
  (kk : RW P N all Q .txt rest ⟨ts,hs',n,z0⟩) : RW P N all Q .txt (⟨none,.store t x y,ty,pos,af,none⟩ :: rest) ⟨ts,hs,n,z0⟩ := by
 refine bC (md' := .txt) (cs := flat cB R[k]!) (new := [.v (.bool b)]) (cs' := flat cB (R[k]!.set v b)) hx hy rfl rfl (hF.get hk) ?_ ?_ (cX kk (Le.fset hF hk))
 ·rw [aI cB (e := 1),List.length_singleton]; omega
 ·exact iS hv rfl
theorem pA {f g:Nat → List AV}{t el e m k M:Nat}{x i:Operand}{kk0:IntKind}[ht:SlT P t el] [he:SzT P el e] (hx:ev (lk ts) x = some (.imm m (flat f (List.range M))))
  (hi : ev (lk ts) i = some (.v (.int kk0 (k : Int)))) (hm : k < m) (hml : m = M) (hf : FlT f e) (hg : FE f g) (hN : Nat.blt d N = true) {md' : Md} [hmd : MdA md (rO x ++ rO i) [.inl d] md'] (kk : RW P N all Q md' rest ⟨(d,.iptr (g k ++ flat f ((List.range M).drop (k + 1)))) :: ts,hs,n,z0⟩) :
  RW P N all Q md (⟨some d,.indexAddr t x i,ty,pos,af,none⟩ :: rest) ⟨ts,hs,n,z0⟩ := by
 have e1 : (List.range M)[k]! = k := by rw [aY _ k (by simp;omega)]; simp
 exact vM hx hi hm (by simpa using hml) hf hg hN (md' := md') (hmd := hmd) (by rw [e1]; exact kk)
theorem kH {f g:Nat → List AV}{t el e m M:Nat}{k:Int}{x i:Operand}{kk0:IntKind}[ht:SlT P t el] [he:SzT P el e] (hx:ev (lk ts) x = some (.imm m (flat f (List.range M))))
  (hi : ev (lk ts) i = some (.v (.int kk0 k))) (hm : 0 ≤ k ∧ k < m) (hml : m = M) (hf : FlT f e) (hg : FE f g) (hN : Nat.blt d N = true) {md' : Md} [hmd : MdA md (rO x ++ rO i) [.inl d] md'] (kk : RW P N all Q md' rest ⟨(d,.iptr (g k.toNat ++ flat f ((List.range M).drop (k.toNat + 1)))) :: ts,hs,n,z0⟩) :
  RW P N all Q md (⟨some d,.indexAddr t x i,ty,pos,af,none⟩ :: rest) ⟨ts,hs,n,z0⟩ := by
 have e1 : (List.range M)[k.toNat]! = k.toNat := by rw [aY _ k.toNat (by simp;omega)]; simp
 exact xK hx hi hm (by simpa using hml) hf hg hN (md' := md') (hmd := hmd) (by rw [e1]; exact kk)
end
def Bd (b w : Nat) (k : Nat) : List AV := [.own (b + k + a6) 0 w 1]
instance (b w : Nat) : FlT (Bd b w) 1:=⟨fun _ => rfl⟩
instance (b w : Nat) : FE (Bd b w) (fun k => [.own (b + k + a6) 0 w 1]):=⟨fun _ => rfl⟩
mutual
inductive Ld (D : List Nat) (H : Nat → Option (List AV)) : AV → AV → Prop
 | pur {v : AV} : v.pur = true → Ld D H v v
 | own {id m e : Nat} {cs cs' : List AV} : id ∈ D → H id = some cs → LdL D H cs cs' → Ld D H (.own id 0 m e) (.imm m cs')
 | optr {id : Nat} {cs cs' : List AV} : id ∈ D → H id = some cs → LdL D H cs cs' → Ld D H (.optr id 0) (.iptr cs')
 | imm {m : Nat} {cs cs' : List AV} : LdL D H cs cs' → Ld D H (.imm m cs) (.imm m cs')
 | agg {cs cs' : List AV} : LdL D H cs cs' → Ld D H (.agg cs) (.agg cs')
inductive LdL (D : List Nat) (H : Nat → Option (List AV)) : List AV → List AV → Prop
 | pur {v : List AV} : bR v = true → LdL D H v v
 | nil : LdL D H [] []
 | cons {c c' : AV} {cs cs' : List AV} : Ld D H c c' → LdL D H cs cs' → LdL D H (c :: cs) (c' :: cs')
end
mutual
theorem Ld.agr {D:List Nat}{H H':Nat → Option (List AV)}(h:∀ id ∈ D,H id = H' id):∀ {v v':AV},Ld D H v v' → Ld D H' v v'
 | _,_,.pur hp => .pur hp
 | _,_,.own h1 h2 h3 => .own h1 (by rw [← h _ h1]; exact h2) (LdL.agr h h3)
 | _,_,.optr h1 h2 h3 => .optr h1 (by rw [← h _ h1]; exact h2) (LdL.agr h h3)
 | _,_,.imm h3 => .imm (LdL.agr h h3)
 | _,_,.agg h3 => .agg (LdL.agr h h3)
theorem LdL.agr {D:List Nat}{H H':Nat → Option (List AV)}(h:∀ id ∈ D,H id = H' id):∀ {v v':List AV},LdL D H v v' → LdL D H' v v'
 | _,_,.pur hp => .pur hp
 | _,_,.nil => .nil
 | _,_,.cons h1 h2 => .cons (Ld.agr h h1) (LdL.agr h h2)
end
mutual
theorem Ld.purR {D:List Nat}{H:Nat → Option (List AV)}:∀ {v v':AV},Ld D H v v' → v'.pur = true
 | _,_,.pur hp => hp
 | _,_,.own h1 h2 h3 => LdL.purR h3
 | _,_,.optr h1 h2 h3 => LdL.purR h3
 | _,_,.imm h3 => LdL.purR h3
 | _,_,.agg h3 => LdL.purR h3
theorem LdL.purR {D:List Nat}{H:Nat → Option (List AV)}:∀ {v v':List AV},LdL D H v v' → bR v' = true
 | _,_,.pur hp => hp
 | _,_,.nil => rfl
 | _,_,.cons h1 h2 => by simp only [bR,Ld.purR h1,LdL.purR h2,Bool.and_self]
end
theorem LdL.len {D:List Nat}{H:Nat → Option (List AV)}:∀ {v v':List AV},LdL D H v v' → v.length = v'.length
 | _,_,.pur hp => rfl
 | _,_,.nil => rfl
 | _,_,.cons h1 h2 => by simp [LdL.len h2]
mutual
theorem Ld.ok {C:Ctx}{ι:Pl}{F:Nat → Prop}{D:List Nat}{H:Nat → Option (List AV)}{w:World}(g:HG C ι F H w):∀ {v v':AV},Ld D H v v' → ∀ {y:Value},Rd w (aL C.X ι H) ι v y → Rd w C.X (fun _ => none) v' y
 | _,_,.pur hp,y,k => Rd.pur _ y hp (Rd.carry (⟨fun b o x h1 h2 => ⟨fun q => h1 (.inl q),h2⟩,fun _ _ h => h,fun _ => Nat.le_refl _⟩ : Carry w (aL C.X ι H) ι w C.X ι) _ _ k)
 | _, _, .own (id := id) (m := m) h1 h2 h3, y, k => by
  have hlen := LdL.len h3
  simp only [Rd] at k ⊢
  rcases k with ⟨_,rfl,a,rfl⟩ | ⟨b,β,c,q1,rfl,q2,q3⟩
  ·exact ⟨a,0,rfl,.inl rfl⟩
  ·rcases g.obj id _ h2 with ⟨p1, _⟩ | ⟨b', β', arr, e', p1, p2, p3, p4, p5, p6⟩
   ·rw [p1] at q1;cases q1
   ·rw [p1] at q1; cases q1
    exact ⟨_,c,rfl,.inr ⟨b,β + 0,q2,rfl,.inr ⟨p5,LdL.okC g h3 p4⟩⟩⟩
 | _, _, .optr (id := id) h1 h2 h3, y, k => by
  simp only [Rd] at k ⊢
  obtain ⟨b,β,q1,rfl⟩ := k
  rcases g.obj id _ h2 with ⟨p1,_⟩ | ⟨b',β',arr,e',p1,p2,p3,p4,p5,p6⟩
  ·rw [p1] at q1;cases q1
  ·rw [p1] at q1; cases q1
   exact ⟨b,β + 0,rfl,.inr ⟨p5,LdL.okC g h3 p4⟩⟩
 | _, _, .imm (cs := cs) (cs' := cs') h3, y, k => by
  have hlen := LdL.len h3
  simp only [Rd] at k ⊢
  obtain ⟨a,c,rfl,k⟩ := k
  refine ⟨a,c,rfl,?_⟩
  rcases k with k | ⟨b,o,hn,rfl,k⟩
  ·exact .inl k
  ·refine .inr ⟨b, o, hn, rfl, ?_⟩
   rcases k with k | ⟨hb,k⟩
   ·subst k;exact .inl (List.eq_nil_of_length_eq_zero (by rw [← hlen]; rfl))
   ·exact .inr ⟨fun q => hb (.inl q),LdL.okC g h3 k⟩
 | _, _, .agg h3, y, k => by
  simp only [Rd] at k ⊢
  obtain ⟨l,h1,h2⟩ := k
  exact ⟨l,h1,LdL.okL g h3 h2⟩
theorem LdL.okC {C:Ctx}{ι:Pl}{F:Nat → Prop}{D:List Nat}{H:Nat → Option (List AV)}{w:World}(g:HG C ι F H w):∀ {v v':List AV},LdL D H v v' → ∀ {b o:Nat},RdC w (aL C.X ι H) ι v b o → RdC w C.X (fun _ => none) v' b o
 | _,_,.pur hp,b,o,k => RdC.pur _ b o hp (RdC.carryB (⟨fun b o x h1 h2 => ⟨fun q => h1 (.inl q),h2⟩,fun _ _ h => h,fun _ => Nat.le_refl _⟩ : Carry w (aL C.X ι H) ι w C.X ι) _ _ _ (fun o x hx => hx) k)
 | _,_,.nil,b,o,k => by simp only [RdC]
 | _, _, .cons h1 h2, b, o, k => by
  simp only [RdC] at k ⊢
  obtain ⟨⟨x,q1,q2,q3⟩,q4⟩ := k
  exact ⟨⟨x,q1,q2,Ld.ok g h1 q3⟩,LdL.okC g h2 q4⟩
theorem LdL.okL {C:Ctx}{ι:Pl}{F:Nat → Prop}{D:List Nat}{H:Nat → Option (List AV)}{w:World}(g:HG C ι F H w):∀ {v v':List AV},LdL D H v v' → ∀ {y:List Value},RdL w (aL C.X ι H) ι v y → RdL w C.X (fun _ => none) v' y
 | _,_,.pur hp,y,k => RdL.pur _ y hp (RdL.carry (⟨fun b o x h1 h2 => ⟨fun q => h1 (.inl q),h2⟩,fun _ _ h => h,fun _ => Nat.le_refl _⟩ : Carry w (aL C.X ι H) ι w C.X ι) _ _ k)
 | _,_,.nil,y,k => by simpa only [RdL] using k
 | _, _, .cons h1 h2, y, k => by
  simp only [RdL] at k ⊢
  obtain ⟨x,l',q0,q1,q2,q3⟩ := k
  exact ⟨x,l',q0,q1,Ld.ok g h1 q2,LdL.okL g h2 q3⟩
end
theorem LdL.okV {C:Ctx}{ι:Pl}{F:Nat → Prop}{D:List Nat}{H:Nat → Option (List AV)}{w:World}(g:HG C ι F H w):∀ {v v':List AV},LdL D H v v' → ∀ {y:List Value},RdV w (aL C.X ι H) ι v y → RdV w C.X (fun _ => none) v' y
 | _,_,.pur hp,y,k => RdV.pur _ y hp (RdV.carry (⟨fun b o x h1 h2 => ⟨fun q => h1 (.inl q),h2⟩,fun _ _ h => h,fun _ => Nat.le_refl _⟩ : Carry w (aL C.X ι H) ι w C.X ι) _ _ k)
 | _,_,.nil,y,k => by simpa only [RdV] using k
 | _, _, .cons h1 h2, y, k => by
  simp only [RdV] at k ⊢
  obtain ⟨x,l',q0,q2,q3⟩ := k
  exact ⟨x,l',q0,Ld.ok g h1 q2,LdL.okV g h2 q3⟩
theorem LdL.flt {D:List Nat}{H:Nat → Option (List AV)}{α:Type}{f f':α → List AV}:∀ {xs:List α},(∀ x ∈ xs,LdL D H (f x) (f' x)) → LdL D H (flat f xs) (flat f' xs)
 | [],_ => .nil
 | x :: xs, h => by
  have h1 := h x (List.mem_cons_self)
  have h2 := LdL.flt (f := f) (f' := f') (xs := xs) (fun y hy => h y (List.mem_cons_of_mem _ hy))
  have app : ∀ {a a' b b' : List AV}, LdL D H a a' → LdL D H b b' → LdL D H (a ++ b) (a' ++ b') := by
   intro a a' b b' ha hb
   induction a generalizing a' with
   | nil =>
    have := LdL.len ha
    cases a' with
    | nil => exact hb
    | cons _ _ => simp at this
   | cons c cs ih =>
    cases ha with
    | pur hp =>
     simp only [bR,Bool.and_eq_true] at hp
     exact .cons (.pur hp.1) (ih (.pur hp.2))
    | cons q1 q2 => exact .cons q1 (ih q2)
  simp only [Go.AL.flat,List.flatMap_cons] at h2 ⊢
  exact app h1 h2
theorem LdL.rows {D:List Nat}{hs:List (Nat × Option (List AV))}{R:List (List Bool)}{b m w:Nat}(hF:FamR R R hs hs) (hD:∀ k,k < m → b + k + a6 ∈ D) (hm:b + m ≤ R.length) (hw:∀ k,k < m → R[b + k]!.length = w) :
  LdL D (aT hs) (flat (Bd b w) (List.range m)) (flat iF ((R.drop b).take m)) := by
 have e : flat iF ((R.drop b).take m) = flat (fun k => [sl cB R[b + k]!]) (List.range m) := by
  have : (R.drop b).take m = (List.range m).map fun k => R[b + k]! := by
   refine List.ext_getElem (by simp;omega) fun i h1 h2 => ?_
   simp only [List.length_take,List.length_drop] at h1
   rw [List.getElem_take,List.getElem_drop,List.getElem_map,List.getElem_range,aY _ _ (by omega)]
  rw [this,Go.AL.flat,List.flatMap_map]; rfl
 rw [e]
 refine LdL.flt fun k hk => ?_
 rw [List.mem_range] at hk
 have hq := hw k hk
 show LdL D (aT hs) [.own (b + k + a6) 0 w 1] [.imm R[b + k]!.length (flat cB R[b + k]!)]
 rw [hq]
 exact .cons (.own (hD k hk) (hF.get (by omega)) (.pur (inferInstance : Pur (flat cB R[b + k]!)).pf)) .nil
section
theorem m7 {k:FuncId}{args:Array Operand}{tys:Array TypeId}{avs avs2:List AV}{r:AV}(D:List Nat) [hc:CaT P k] (ha:evL (lk ts) args.toList = some avs) (hl:LdL D (aT hs) avs avs2) (h:PC P k avs2 (fun x => x = r)) (hfr:r.free = true) (hN:Nat.blt d N = true)
  {md' : Md} [hmd : MdA md (fF args.toList ++ D.map .inr) [.inl d] md'] (kk : RW P N all Q md' rest ⟨(d,r) :: ts,hs,n,z0⟩) : RW P N all Q md (⟨some d,.call ⟨.value (.func k),args,tys⟩,ty,pos,af,none⟩ :: rest) ⟨ts,hs,n,z0⟩ := by
 refine kI (rs := fF args.toList ++ D.map .inr) (ws := []) (n' := n) (out := r) rfl (Nat.le_refl _) (.inl rfl) (fun C ι F T H a w K Q' hCN ag hF g gh hK => ?_) (fun x hx => by cases hx;exact cS hN) (by rw [← hmd.pf] at kk;exact kk)
 simp only [Oper.wp,fU hc.pf,Oper.upon]
 have hl' : LdL D H avs avs2 := hl.agr fun id hid => (ag.r.h id (List.mem_map_of_mem hid)).symm
 have hv := hl'.okV gh (iV g (ag.l.evL.trans ha))
 let C' : Ctx := { N := 0,w0 := w,W0 := fun _ => False,X := C.X,ι0 := fun _ => none,xlt := fun b hb => Nat.lt_of_lt_of_le (C.xlt b hb) gh.fr.size }
 have hbad : ∀ b,aL C'.X (fun _ => none) (aT []) b ↔ C.X b := fun b => ⟨fun h => (by rcases h with h | ⟨id,cs,β,h1,h2⟩ <;> first|exact h|cases h2),fun h => Or.inl h⟩
 have g' : HG C' (fun _ => none) (fun j => 0 ≤ j) (aT []) w :=
  ⟨fun id cs h => by simp [aT] at h,fun id id' cs cs' b β β' h => by simp [aT] at h,Fr.refl _ _,fun _ _ h => h,fun _ _ => rfl⟩
 have hcar : Carry w C.X (fun _ => none) w (aL C'.X (fun _ => none) (aT [])) (fun _ => none) := ⟨fun b o x h1 h2 => ⟨fun h => h1 ((hbad b).1 h),h2⟩,fun _ _ h => h,fun _ => Nat.le_refl _⟩
 refine (h C' _ w _ rfl rfl g' (RdV.carry hcar _ _ hv)).mono ?_
 rintro e w' ⟨v,r',H',ι',rfl,⟨rfl,_⟩,h4,h5⟩
 obtain ⟨g2,c2⟩ := gh.ext h5.fr
 exact hK ι w' v (g.carry c2) (g2.less (fun _ _ h => h) (fun j hj => hj.1)).1 (Rd.free _ _ hfr h4)
theorem Le.frzAll {D:List Nat}{av out:AV}(hd:lk ts d = some av) (hl:Ld D (aT hs) av out):Le ⟨ts,hs,n,z0⟩ ⟨[(d,out)],[],n,z0⟩:=by
 rintro C a w ⟨h0,ι,g,gh⟩
 obtain ⟨gh',car⟩ := gh.less (F' := Fn n z0) (H' := aT []) (fun id c h => by simp [aT] at h) (fun _ h => h)
 refine ⟨h0,ι,⟨g.df,g.sz,fun t av' ht => ?_⟩,gh'⟩
 have ht' : lk [(d,out)] t = some av' := ht
 rw [lO] at ht'
 split at ht'
 ·rename_i e
  subst e
  cases ht'
  obtain ⟨y,hy,hr⟩ := g.tm t _ hd
  refine ⟨y,hy,Rd.pur _ _ hl.purR (Rd.carry (⟨fun b o x h1 h2 => ⟨?_,h2⟩,fun _ _ h => h,fun _ => Nat.le_refl _⟩ : Carry w C.X (fun _ => none) w (aL C.X ι (aT [])) (fun _ => none)) _ _ (hl.ok gh hr))⟩
  rintro (h | ⟨id,cs,β,q1,q2⟩)
  ·exact h1 h
  ·simp [aT] at q1
 ·simp [lk] at ht'
end
end Go.AL
