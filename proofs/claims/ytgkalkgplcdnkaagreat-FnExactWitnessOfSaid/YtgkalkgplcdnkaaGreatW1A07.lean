/-
 A part of the proofs over this program: rules and contracts of its functions (the rules).
-/
import Derived.Test.YtgkalkgplcdnkaaGreatW1A06
import Derived.MapKept
import Derived.Orders
import Derived.StillTail
set_option linter.unusedVariables false
set_option linter.unusedSimpArgs false
namespace Go.AL
open Go.RowKit
section
variable {P : Program} {C : Ctx} {ι : Pl} {F : Nat → Prop} {T : Nat → Option AV} {H : Nat → Option (List AV)} {a : Act} {w : World} {o : Oper}
theorem rY (t tn ty e:TypeId) (i:TypeInfo) (z:Value) (k kn:IntKind) (ht:P.underlying t = some (.slice e)) (htn:P.underlying tn = some (.int kn)) (hi:P.info? e = some i) (hz:i.zero = some z)
  (n : Nat) (h0 : 0 < n) (hs : 0 < i.size) (h63 : n ≤ 9223372036854775807) (hb : n * i.bytes ≤ 140737488355328) :
  (Builtin.append_ #[t, tn] ty #[.slice none 0 0, .int k (n : Int)]).run P w =
   .ok (.slice (some ⟨w.heap.size,0,none⟩) n (grownCap w n 0 e)) (w.drew.alloc (.cells (Builtin.zeroCells z.cells n ++ Builtin.zeroCells z.cells (grownCap w n 0 e - n)) e)) := by
 have h1 : n ≠ 0 := by omega
 have h2 : IntKind.i64.wrap (n : Int) = n := y7 (by omega)
 have h3 : ¬ (9223372036854775807 < (n : Int)) := by omega
 have hfit := growslice_fits (need := n) (old := 0) (bytes := i.bytes) (by omega) hb
 have h4 : ¬ (281474976710656 < Builtin.nextslicecap n 0 * i.bytes) := by omega
 have h5 : ¬ (281474976710656 < (n : Int) * (i.bytes : Int)) := by rw [← Int.natCast_mul]; omega
 have h6 : ¬ ((n : Int) < 0) := by omega
 have h7 : ¬ (n * i.size = 0) := Nat.mul_ne_zero h1 (by omega)
 have h8 : ∀ w : World,(Builtin.firstCells i.size 0 (.slice none 0 0)).run P w = .ok #[] w := fun w => by simp [Builtin.firstCells,loadCells,loadCellsFrom]
 simp [Builtin.append_,bS ht,bS htn,sizeOf,typeInfo,zeroValue,hi,hz,asInt,asIntOf,h2,h1,h6,h7,h3,h4,h5,Question.forced,h8,newRow,grownCap]
theorem qU (z:Array Value):∀ n,(Builtin.zeroCells z n).toList = (List.replicate n z.toList).flatten := fun n => by
 have := oJ z n (n * z.size) rfl
 simpa [Builtin.zeroCells,madeCells] using this
theorem Eb (g:TG C ι T H a w) (gh:HG C ι F H w){t tn el:TypeId}{e by' id n:Nat}{x y:Operand}{zs:List Value}{k k':IntKind}(ho:o.op = .call ⟨.builtin .append,#[x,y],#[t,tn]⟩)
  (hx : ev T x = some (.v (.slice none 0 0))) (hy : ev T y = some (.v (.int k (n : Int)))) (ht : lS P t = some el) (htn : P.underlying tn = some (.int k')) (he : eR P el = some e) (hb : yS P el = some by') (hz : nO P el = some zs) (hze : zs.length = e)
  (he0 : 0 < e) (h0 : 0 < n) (hsm : n * by' ≤ 140737488355328) (hmx : n ≤ 9223372036854775807) (hf : F id) :
  Ef P C ι (fun j => F j ∧ j ≠ id) H a w o (.own id 0 n e) (c8 H id (some ((List.replicate n (zs.map .v)).flatten))) := by
 obtain ⟨i,z,h1,h2,h3,h4⟩ := oE hz
 have hzsz : z.cells.size = e := by rw [← hze,← h3]; simp
 have hx' := bQ g hx
 have hy' := bQ g hy
 simp only [Rd] at hx' hy'
 have hr := rY (P := P) (w := w) t tn o.type el i z k k' (jT ht) htn h1 h2 n h0 (by rw [uH he h1]; exact he0) hmx (by rw [Ah hb h1]; exact hsm)
 obtain ⟨g1,c1⟩ := lL gh
 have harr : (Builtin.zeroCells z.cells n).toList = (List.replicate n zs).flatten := by rw [qU,h3]
 obtain ⟨g3, c4⟩ := g1.alloc (id := id) hf (arr := Builtin.zeroCells z.cells n ++ Builtin.zeroCells z.cells (grownCap w n 0 el - n)) el (cs := (List.replicate n (zs.map AV.v)).flatten) (l := (List.replicate n zs).flatten) (rest := (Builtin.zeroCells z.cells (grownCap w n 0 el - n)).toList)
  (by rw [Array.toList_append, harr]) (by
   have : (List.replicate n (zs.map AV.v)).flatten = ((List.replicate n zs).flatten).map AV.v := by rw [List.map_flatten,List.map_replicate]
   rw [this]; exact qW (mR zs h4 n))
 refine ⟨_,.slice (some ⟨w.heap.size,0,none⟩) n (grownCap w n 0 el),_,_,?_,.inl ⟨rfl,?_⟩,g3,c1.trans c4⟩
 ·simp [execOp,ho,resolve,invoke,builtin,hx',hy',hr]
 ·simp only [Rd]
  have hge := grownCap_ge w n 0 el
  refine .inr ⟨w.heap.size,0,_,by simp,by simp,hge,?_⟩
  have hh : (w.drew.alloc (.cells (Builtin.zeroCells z.cells n ++ Builtin.zeroCells z.cells (grownCap w n 0 el - n)) el)).heap[w.heap.size]? = some (.cells (Builtin.zeroCells z.cells n ++ Builtin.zeroCells z.cells (grownCap w n 0 el - n)) el (0,0)) := heap_alloc_new w.drew _
  rw [n6,hh]
  simp only [Array.size_append,size_zeroCells,hzsz,← Nat.add_mul]
  rw [show n + (grownCap w n 0 el - n) = grownCap w n 0 el from by omega]
  omega
end
section
variable {P : Program} {N : Nat} {Q : Exit → AS → Prop} {all : Array Oper} {rest : List Oper} {ts : List (Nat × AV)} {hs : List (Nat × Option (List AV))} {n : Nat} {z0 : Lo} {md : Md}
variable {d : Nat} {ty : TypeId} {pos : String} {af : Array Edge}
theorem Fx {t tn el:TypeId}{e by' m:Nat}{x y:Operand}{zs:List Value}{k k':IntKind}{z:Int}[ht:SlT P t el] [he:SzT P el e] [hb:ByT P el by'] [hz:ZrT P el zs] (htn:P.underlying tn = some (.int k'))
  (hx : ev (lk ts) x = some (.v (.slice none 0 0))) (hy : ev (lk ts) y = some (.v (.int k z))) (hzm : z = (m : Int)) (hze : zs.length = e) (he0 : Nat.blt 0 e = true) (h0 : 0 < m) (hsm : m * by' ≤ 140737488355328) (hmx : m ≤ 9223372036854775807)
  (hM : Nat.blt n aT = true) (hN : Nat.blt d N = true) (kk : RW P N all Q .txt rest ⟨(d,.own n 0 m e) :: ts,(n,some ((List.replicate m (zs.map .v)).flatten)) :: hs,n + 1,z0⟩) :
  RW P N all Q .txt (⟨some d,.call ⟨.builtin .append,#[x,y],#[t,tn]⟩,ty,pos,af,none⟩ :: rest) ⟨ts,hs,n,z0⟩ := by
 subst hzm
 exact Ko (rs := rO x ++ rO y) rfl rfl (dD hN) hM (fun C ι F T H a w ag hF g gh => Eb g gh rfl (ag.l.ev.trans hx) (ag.r.ev.trans hy) ht.pf htn he.pf hb.pf hz.pf hze (dD he0) h0 hsm hmx hF) kk
theorem Da {t el:TypeId}{x:Operand}[ht:SlT P t el] (hx:ev (lk ts) x = some (.v (.slice none 0 0))) (hN:Nat.blt d N = true) (kk:RW P N all Q .txt rest ⟨(d,.v (.int .i64 0)) :: ts,hs,n,z0⟩) :
  RW P N all Q .txt (⟨some d,.call ⟨.builtin .cap,#[x],#[t]⟩,ty,pos,af,none⟩ :: rest) ⟨ts,hs,n,z0⟩ := by
 refine dR (out := .v (.int .i64 0)) (rs := rO x) rfl rfl (dD hN) (fun C ι F T H a w ag g gh => ?_) kk
 have hx' := bQ g (ag.ev.trans hx)
 simp only [Rd] at hx'
 exact ⟨.int .i64 0,by simp [execOp,resolve,invoke,builtin,hx',Builtin.cap_,bS (jT ht.pf),goInt],by simp only [Rd]⟩
theorem rR {t el:TypeId}{x y:Operand}{i o m e:Nat}{k:IntKind}{z:Int}{h:Nat}[ht:SlT P t el] [he:SzT P el e] (hx:ev (lk ts) x = some (.own i o m e)) (hy:ev (lk ts) y = some (.v (.int k z))) (hz:z = (h:Int)) (hb:h ≤ m) (hN:Nat.blt d N = true)
  {md' : Md} [hmd : MdA md (rO x ++ (rB none ++ rB (some y))) [.inl d] md'] (kk : RW P N all Q md' rest ⟨(d,.own i o h e) :: ts,hs,n,z0⟩) : RW P N all Q md (⟨some d,.slice t x none (some y) none,ty,pos,af,none⟩ :: rest) ⟨ts,hs,n,z0⟩ := by
 subst hz
 exact yZ (m := m) (l := 0) (h := h) hx rfl rfl (by simp [jS,hy]) (by simp [I1,hb]) hN (md' := md') (hmd := hmd) kk
theorem xC {t el e:TypeId}{x:Operand}{hi:Option Operand}[ht:SlT P t el] [he:SzT P el e] (hx:ev (lk ts) x = some (.v (.slice none 0 0))) (hh:jS (lk ts) hi 0 = some 0) (hN:Nat.blt d N = true)
  (kk : RW P N all Q .txt rest ⟨(d,.v (.slice none 0 0)) :: ts,hs,n,z0⟩) : RW P N all Q .txt (⟨some d,.slice t x none hi none,ty,pos,af,none⟩ :: rest) ⟨ts,hs,n,z0⟩ := by
 refine dR (out := .v (.slice none 0 0)) (rs := rO x ++ rB hi) rfl rfl (dD hN) (fun C ι F T H a w ag g gh => ?_) kk
 have h1 := bQ g (ag.l.ev.trans hx)
 simp only [Rd] at h1
 have hu := jT ht.pf
 have hr := gZ (P := P) (w := w) (is := true) (cap := 0) g (lo := none) (hi := hi) (l := 0) (h := 0) (n := 0) rfl (ag.r.bnd.trans hh) (Nat.le_refl _) (Nat.le_refl _) (Nat.le_refl _)
 rw [show Option.map a.eval (none : Option Operand) = none from rfl] at hr
 refine ⟨.slice none 0 0,?_,by simp only [Rd]⟩
 simp [execOp,h1,Instr.sliceAt,bS hu,Instr.slice,hr,eE he.pf]
end
theorem Le.cut {ts:List (Nat × AV)}{hs:List (Nat × Option (List AV))}{n:Nat}{z0:Lo}{i:Nat}{cs:List AV}(k:Nat) (hi:aO hs i = some cs) :
  Le ⟨ts,hs,n,z0⟩ ⟨ts,(i,some (cs.take k)) :: hs,n,z0⟩ := by
 rintro C a w ⟨h0,ι,g,gh⟩
 have hσ : ∀ id c, aO ((i, some (cs.take k)) :: hs) id = some c → ∃ c0, aO hs id = some c0 ∧ (c = c0 ∨ c = c0.take k) := by
  intro id c h
  rw [bU] at h
  split at h
  ·rename_i e;subst e;cases h;exact ⟨cs,hi,.inr rfl⟩
  ·exact ⟨c,h,.inl rfl⟩
 have car : Carry w (aE C.X ι (aO hs)) ι w (aE C.X ι (aO ((i, some (cs.take k)) :: hs))) ι := by
  refine ⟨fun b o' x h1 h2 => ⟨?_,h2⟩,fun _ _ h => h,fun _ => Nat.le_refl _⟩
  rintro (h | ⟨id,c,β,q1,q2⟩)
  ·exact h1 (.inl h)
  ·obtain ⟨c0, r, _⟩ := hσ id c q1
   exact h1 (.inr ⟨id,c0,β,r,q2⟩)
 refine ⟨h0,ι,⟨g.df,g.sz,fun t av ht => ?_⟩,⟨fun id c h => ?_,fun id id' c c' b β β' q1 q2 q3 q4 => ?_,gh.fr,gh.ex,gh.fresh⟩⟩
 ·obtain ⟨y, hy, hr⟩ := g.tm t av ht
  exact ⟨y,hy,Rd.carry car _ _ hr⟩
 ·obtain ⟨c0, r, e⟩ := hσ id c h
  rcases gh.obj id c0 r with ⟨h1,h2⟩ | ⟨b',β',arr',e',h1,h2,h3,h4,h5,h6⟩
  ·refine .inl ⟨h1, ?_⟩
   rcases e with e|e
   ·rw [e,h2]
   ·rw [e,h2]; simp
  ·refine .inr ⟨b', β', arr', e', h1, h2, ?_, ?_, h5, h6⟩
   ·rcases e with e | e
    ·rw [e]; exact h3
    ·rw [e,List.length_take]; omega
   ·have h7 := RdC.carryB car _ _ _ (fun o x hx => hx) h4
    rcases e with e|e
    ·rw [e]; exact h7
    ·rw [e]; exact RdC.take k h7
 ·obtain ⟨_, r1, _⟩ := hσ id c q1
  obtain ⟨_,r2,_⟩ := hσ id' c' q2
  exact gh.sep _ _ _ _ _ _ _ r1 r2 q3 q4
def IE (l : List Int) : List AV := [sl cI l]
instance : FlT IE 1:=⟨fun _ => rfl⟩
instance : FE IE (fun l => [sl cI l]):=⟨fun _ => rfl⟩
instance (l : List Int) : Pur (IE l):=⟨by show (AV.pur (sl cI l) && true) = true;rw [Bool.and_true]; exact a8 cI l⟩
section
variable {P : Program} {N : Nat} {Q : Exit → AS → Prop} {all : Array Oper} {rest : List Oper} {ts : List (Nat × AV)} {hs : List (Nat × Option (List AV))} {n : Nat} {z0 : Lo}
variable {d : Nat} {ty : TypeId} {pos : String} {af : Array Edge}
theorem o8 {fn:Go.Fn}{cs:Array Operand}{i:Nat}{cc c:List AV}(t:Nat) (hx:lk ts t = some (.optr i 0)) (hH:aO hs i = some cc) (hc:evL (lk ((t,.iptr cc) :: ts)) cs.toList = some c) (hN:Nat.blt d N = true)
  (kk : RW P N all Q .txt rest ⟨(d,.clos fn [] c) :: (t,.iptr cc) :: ts,(i,none) :: hs,n,z0⟩) : RW P N all Q .txt (⟨some d,.makeFunc fn #[] cs,ty,pos,af,none⟩ :: rest) ⟨ts,hs,n,z0⟩ :=
 eG (kF (f := []) (c := c) rfl hc hN (md' := .txt) kk) (Le.frzP hx hH)
end
theorem I6 {P:Program}{C:Ctx}{ι:Pl}{F':Nat → Prop}{H:Nat → Option (List AV)}{a:Act}{w:World}{o:Oper}{id m e:Nat}{cs:List AV}
  (h : Ef P C ι F' H a w o (.own id 0 m e) (c8 H id (some cs))) : Ef P C ι F' H a w o (.imm m cs) (c8 H id none) := by
 obtain ⟨n,y,ι',w',h1,h2,h3,h4⟩ := h
 obtain ⟨g, c⟩ := h3.less (F' := F') (H' := c8 H id none) (fun j c hj => by
  by_cases e1 : j = id
  ·subst e1;simp at hj
  ·rw [aX _ _ e1] at hj ⊢; exact hj) (fun _ h => h)
 refine ⟨n,y,ι',w',h1,?_,g,h4.trans c⟩
 rcases h2 with ⟨e1,hr⟩ | ⟨_,_,e3⟩
 ·refine .inl ⟨e1, ?_⟩
  have hi : c8 H id (some cs) id = some cs := upd_same _ _ _
  simp only [Rd] at hr ⊢
  rcases hr with ⟨_,h2,a',h3'⟩ | ⟨b,β,c',q1,q2,q3,q4⟩
  ·subst h2;exact ⟨a',0,h3',.inl rfl⟩
  ·refine ⟨_, c', q2, ?_⟩
   rcases Nat.eq_zero_or_pos m with h5|h5
   ·exact .inl h5
   ·refine .inr ⟨b, β + 0, q3, rfl, ?_⟩
    rcases h3.obj id cs hi with ⟨r1,r2⟩ | ⟨b',β',arr,e',r1,r2,r3,r4,r5,r6⟩
    ·rw [q1] at r1;cases r1
    ·rw [q1] at r1; cases r1
     refine .inr ⟨?_,RdC.carryB c _ _ _ (fun o x hx => hx) r4⟩
     rintro (h | ⟨id',cs',β',s1,s2⟩)
     ·exact r5 h
     ·by_cases e1 : id' = id
      ·subst e1;simp at s1
      ·rw [aX _ _ e1] at s1
       exact e1 (h3.sep _ _ _ _ _ _ _ (by rw [aX _ _ e1]; exact s1) hi s2 q1)
 ·cases e3
section
variable {P : Program} {N : Nat} {Q : Exit → AS → Prop} {all : Array Oper} {rest : List Oper} {ts : List (Nat × AV)} {hs : List (Nat × Option (List AV))} {n : Nat} {z0 : Lo} {md : Md}
variable {d : Nat} {ty : TypeId} {pos : String} {af : Array Edge}
theorem j5 {t el len e:Nat}{parts:Array (Nat × Operand)}{zs:List Value}{l:List (Nat × AV)}{cs:List AV}[ht:SlT P t el] [he:SzT P el e] [hz:ZrT P el zs] (hze:zs.length = e) (hsm:Nat.ble (len * e) 16777216 = true)
  (hl : evs (lk ts) parts.toList = some l) (hfl : gC (fun i => some (i * e,e)) ((List.replicate len (zs.map .v)).flatten) l = some cs) (hM : Nat.blt n aT = true) (hN : Nat.blt d N = true) {md' : Md} [hmd : MdA md (Gj parts.toList) [.inr n,.inl d] md']
  (kk : RW P N all Q md' rest ⟨(d,.imm len cs) :: ts,(n,none) :: hs,n + 1,z0⟩) :
  RW P N all Q md (⟨some d,.buildSlice t len parts,ty,pos,af,none⟩ :: rest) ⟨ts,hs,n,z0⟩ :=
 BG (rs := Gj parts.toList) (ws := [(n, none)]) (n' := n + 1) (out := .imm len cs) rfl (fun x h => by cases h; exact dD hN) (Nat.le_succ n) (.inr (dD hM))
  (fun C ι F T H a w ag hF g gh => AJ (I6 (lX g gh rfl ht.pf he.pf hz.pf hze (by simpa using hsm) (ag.evs.trans hl) hfl (hF n (Nat.le_refl n) (Nat.lt_succ_self n))))) (by rw [show md.add (Gj parts.toList) ([(n,(none : Option (List AV)))].map (fun p => .inr p.1) ++ wD (some d)) = md' from hmd.pf]; exact kk)
end
theorem kP {xs ys:List Int}{m:Nat}(hm:m = xs.length):((flat cI xs).drop 0).take (m * 1) ++ flat cI ys = flat cI (xs ++ ys):=by
 subst hm
 have h : (flat cI xs).length = xs.length * 1 := aK cI xs
 rw [List.drop_zero,List.take_of_length_le (by omega)]
 simp [flat]
theorem EB {hs:List (Nat × Option (List AV))}{id m e':Nat}{u:List Int}(h:aO hs id = some (flat cI u)) (hm:m = u.length):sCells (aO hs) 1 (tC (.own id 0 m e')) = some (m,flat cI u):=by
 subst hm
 have hl : (flat cI u).length = u.length * 1 := aK cI u
 show ((aO hs id).bind fun cs => if u.length * 1 ≤ (cs.drop 0).length then some (u.length,(cs.drop 0).take (u.length * 1)) else none) = _
 rw [h]
 show (if u.length * 1 ≤ ((flat cI u).drop 0).length then some (u.length,((flat cI u).drop 0).take (u.length * 1)) else none) = _
 rw [List.drop_zero,if_pos (by omega),List.take_of_length_le (by omega)]
theorem mJ {f:Nat}{E:List (Nat × Nat)}{h:Nat}(hh:h < (iD f E).length):dL f E h = ((iD f E)[h]!:Int) :: dL f E (h + 1):=by
 unfold dL
 rw [List.drop_eq_getElem_cons hh,List.map_cons,aW _ _ hh]
theorem oH {f:Nat}{E:List (Nat × Nat)}{h:Nat}:dL f E h = [] ↔ (iD f E).length ≤ h:=by
 unfold dL
 rw [List.map_eq_nil_iff,List.drop_eq_nil_iff]
theorem gL (f:Nat) (E:List (Nat × Nat)) (h:Nat):(dL f E h).length = E.length + 1 - h:=by
 unfold dL;rw [List.length_map,List.length_drop,dI]
theorem oF {f:Nat}{E:List (Nat × Nat)}{h k a:Nat}(hh:h ≤ (iD f E).length):dL f (E ++ [(k,a)]) h = dL f E h ++ [(k:Int)]:=by
 unfold dL
 have : iD f (E ++ [(k,a)]) = iD f E ++ [k] := by unfold iD;simp
 rw [this,List.drop_append_of_le_length hh]; simp
theorem pG {E:List (Nat × Nat)}{a k:Nat}(h:eX E k < 0):DE E a k = E ++ [(k,a)] := by unfold DE;rw [if_pos h]
theorem vN {E:List (Nat × Nat)}{a k:Nat}(h:0 ≤ eX E k):DE E a k = E := by unfold DE;rw [if_neg (by omega)]
structure CS (pts : List Pnt) (f t : Nat) (E : List (Nat × Nat)) (x : Nat) (R : List (Nat × Nat)) (v : List Int) : Prop where
 suf : R <:+ E.reverse
 mem : x ≠ f → x ∈ R.map (·.1)
 eq : dT (cO pts f t) = dT (Km f R x) ++ v
 len : v.length + R.length ≤ E.length
 xl : x < pts.length
section
variable {pts : List Pnt} {f t : Nat} (w : ∀ i,i < pts.length → ∀ k ∈ pts[i]!.next,0 ≤ k ∧ k < pts.length) (hf : f < pts.length)
include w hf
theorem CS.start {E:List (Nat × Nat)}(hE:E <+: j3 pts f) (ht:0 ≤ eX E t):BI pts f E ∧ ∃ (a:Nat) (R:List (Nat × Nat)),eX E t = (a:Int) ∧ CS pts f t E a R [(t:Int)]:=by
 obtain ⟨e,I⟩ := I7 w hf hE ht
 refine ⟨I,?_⟩
 obtain ⟨a,R,h1,h2,h3,h4,h5⟩ := mV I (List.suffix_refl _) (by rw [List.map_reverse,List.mem_reverse]; exact dU.1 ht : t ∈ E.reverse.map (·.1))
 refine ⟨a,R,h1,h2,h5,?_,by rw [List.length_reverse] at h3;simp;omega,?_⟩
 ·rw [e,h4]; simp [dT]
 ·by_cases h : a = f
  ·rw [h]; exact hf
  ·obtain ⟨x, hx, rfl⟩ := List.mem_map.1 (h5 h)
   have : x ∈ E := by rw [← List.mem_reverse]; exact h2.subset hx
   exact ((I.le w).2 x this).1
theorem CS.step {E R:List (Nat × Nat)}{x:Nat}{v:List Int}(I:BI pts f E) (c:CS pts f t E x R v) (hx:x ≠ f):∃ (a:Nat) (R':List (Nat × Nat)),eX E x = (a:Int) ∧ CS pts f t E a R' ((x:Int) :: v) ∧ R'.length < R.length:=by
 obtain ⟨a,R',h1,h2,h3,h4,h5⟩ := mV I c.suf (c.mem hx)
 refine ⟨a,R',h1,⟨h2,h5,?_,by have := c.len;simp;omega,?_⟩,h3⟩
 ·rw [c.eq]; unfold Km at h4 ⊢; rw [if_neg hx,h4]; simp [dT]
 ·by_cases h : a = f
  ·rw [h]; exact hf
  ·obtain ⟨x, hx, rfl⟩ := List.mem_map.1 (h5 h)
   have : x ∈ E := by rw [← List.mem_reverse]; exact h2.subset hx
   exact ((I.le w).2 x this).1
end
theorem CS.fin {pts:List Pnt}{f t:Nat}{E R:List (Nat × Nat)}{v:List Int}(c:CS pts f t E f R v):dT (cO pts f t) = (f:Int) :: v:=by
 rw [c.eq]; unfold Km;rw [if_pos rfl]; rfl
theorem bT (l:List Nat):(dT l).length = l.length := by unfold dT;simp
theorem tX {W:Nat → List Nat}{U:Nat → Bool}{i:Nat}(h:U i = false ∨ W i = []):gR W U (i + 1) = gR W U i:=by
 rw [gR,if_neg]
 rintro ⟨h1,h2,_⟩
 rcases h with h|h
 ·rw [h] at h1;cases h1
 ·exact h2 h
theorem pO {W:Nat → List Nat}{U:Nat → Bool}{i:Nat}(h1:U i = true) (h2:W i ≠ []) (h3:(gR W U i).1 < 0 ∨ (W i).length < (gR W U i).2.length):gR W U (i + 1) = ((i:Int),W i):=by
 rw [gR,if_pos ⟨h1,h2,h3⟩]
theorem Bl {W:Nat → List Nat}{U:Nat → Bool}{i:Nat}(h3:0 ≤ (gR W U i).1) (h4:(gR W U i).2.length ≤ (W i).length):gR W U (i + 1) = gR W U i:=by
 rw [gR,if_neg]
 rintro ⟨_,_,h5⟩
 omega
theorem Bm {pts:List Pnt}{f x:Nat}(w:∀ i,i < pts.length → ∀ k ∈ pts[i]!.next,0 ≤ k ∧ k < pts.length) (hf:f < pts.length) (h:0 ≤ eX (j3 pts f) x):cO pts f x ≠ [] := (fY w hf).2 ((eM w hf x).1 h)
theorem BT {pts:List Pnt}{f x:Nat}(h:eX (j3 pts f) x < 0):cO pts f x = [] := by unfold cO;rw [if_neg (by omega)]
theorem Ce {pts:List Pnt}{f:Nat}{E:List (Nat × Nat)}(I:BI pts f E):∀ n R x,R.length ≤ n → R <:+ E.reverse → x ∈ R.map (·.1) → (Bz f R x).length ≤ R.length + 1
 | n, R, x, hn, hR, hx => by
  obtain ⟨a,R',_,h2,h3,h4,h5⟩ := mV I hR hx
  rw [h4]
  unfold Km
  by_cases e : a = f
  ·rw [if_pos e]; simp;omega
  ·rw [if_neg e]
   cases n with
   | zero => omega
   | succ n =>
    have := Ce I n R' a (by omega) h2 (h5 e)
    rw [List.length_append,List.length_singleton]; omega
theorem eP {pts:List Pnt}{f x:Nat}(w:∀ i,i < pts.length → ∀ k ∈ pts[i]!.next,0 ≤ k ∧ k < pts.length) (hf:f < pts.length):(cO pts f x).length ≤ pts.length + 1:=by
 unfold cO
 split
 ·rename_i h
  have I : BI pts f (j3 pts f) := l6 w hf _
  have := Ce I _ _ _ (Nat.le_refl _) (List.suffix_refl _) (by rw [List.map_reverse,List.mem_reverse]; exact dU.1 h : x ∈ (j3 pts f).reverse.map (·.1))
  have h2 := (I.le w).1
  rw [List.length_reverse] at this;omega
 ·simp
theorem F3 (ts:List Int) (pts:List Pnt) (Af:List Nat) (loan i:Nat) (hn:ts.length ≤ 6):((a7 (wS ts pts[i]! [1,2,3])).any fun v => (cG Af i)[v.toNat]!.testBit loan) = cZ ts pts Af loan i:=by
 rw [Bool.eq_iff_iff,List.any_eq_true]
 unfold cZ
 rw [List.any_eq_true]
 constructor
 ·rintro ⟨z, hz, h2⟩
  obtain ⟨v,h3,h4,rfl⟩ := dA.1 hz
  rw [cK] at h4
  simp only [Bool.and_eq_true,decide_eq_true_eq] at h4
  refine ⟨v,List.mem_range.2 h4.1,?_⟩
  rw [Int.toNat_natCast] at h2
  rw [h2,Bool.and_true,decide_eq_true_eq]
  intro h0;rw [h0] at h4;simp at h4
 ·rintro ⟨v, hv, h2⟩
  simp only [Bool.and_eq_true,decide_eq_true_eq,List.mem_range] at h2 hv
  have := pU ts pts[i]! v
  refine ⟨(v : Int),dA.2 ⟨v,by omega,?_,rfl⟩,by rw [Int.toNat_natCast]; exact h2.2⟩
  rw [cK]
  simp only [Bool.and_eq_true,decide_eq_true_eq,List.mem_cons,List.not_mem_nil,or_false]
  omega
structure RI (pts : List Pnt) (a : Nat) (F : List Bool) (T : List Int) : Prop where
 len : F.length = pts.length
 src : ∀ k ∈ pts[a]!.next,F[k.toNat]! = true ∨ k ∈ T
 cl : ∀ i,i < pts.length → F[i]! = true → ∀ k ∈ pts[i]!.next,F[k.toNat]! = true ∨ k ∈ T
 snd : ∀ i,i < pts.length → F[i]! = true → Wy pts a i
 tw : ∀ k ∈ T,0 ≤ k ∧ k < pts.length ∧ Wy pts a k.toNat
def AF (F : List Bool) (T : List Int) : Nat := 3 * F.countP (fun b => !b) + T.length
theorem RI.start {pts:List Pnt}{a:Nat}(w:∀ i,i < pts.length → ∀ k ∈ pts[i]!.next,0 ≤ k ∧ k < pts.length) (ha:a < pts.length):RI pts a (List.replicate pts.length false) pts[a]!.next:=by
 have h0 : ∀ i, (List.replicate pts.length false)[i]! = true → False := fun i h => by
  by_cases hi : i < pts.length
  ·rw [aW _ i (by simpa using hi)] at h;simp at h
  ·rw [getElem!_neg _ i (by simpa using hi)] at h;cases h
 exact ⟨by simp, fun k hk => .inr hk, fun i hi h => (h0 i h).elim, fun i hi h => (h0 i h).elim, fun k hk =>
  ⟨(w a ha k hk).1,(w a ha k hk).2,.base ⟨ha,by rw [Int.toNat_of_nonneg (w a ha k hk).1]; exact hk⟩⟩⟩
theorem RI.vis {pts:List Pnt}{a:Nat}{F:List Bool}{T T':List Int}{k:Int}(I:RI pts a F T) (h1:∀ x ∈ T,x = k ∨ x ∈ T') (h2:∀ x ∈ T',x ∈ T) (hF:F[k.toNat]! = true):RI pts a F T':=by
 have key : ∀ x, F[x.toNat]! = true ∨ x ∈ T → F[x.toNat]! = true ∨ x ∈ T' := fun x h => by
  rcases h with h|h
  ·exact .inl h
  ·rcases h1 x h with rfl | h
   ·exact .inl hF
   ·exact .inr h
 exact ⟨I.len,fun x hx => key x (I.src x hx),fun i hi h x hx => key x (I.cl i hi h x hx),I.snd,fun x hx => I.tw x (h2 x hx)⟩
theorem RI.new {pts:List Pnt}{a:Nat}(w:∀ i,i < pts.length → ∀ k ∈ pts[i]!.next,0 ≤ k ∧ k < pts.length){F:List Bool}{T T':List Int}{k:Int}(I:RI pts a F T) (hk:k ∈ T) (h1:∀ x ∈ T,x = k ∨ x ∈ T') (h2:∀ x ∈ pts[k.toNat]!.next,x ∈ T') (h3:∀ x ∈ T',x ∈ T ∨ x ∈ pts[k.toNat]!.next) :
  RI pts a (F.set k.toNat true) T' := by
 have hkl := I.tw k hk
 have hl := I.len
 have mono : ∀ i : Nat, F[i]! = true → (F.set k.toNat true)[i]! = true := fun i h => by
  rw [aP]; split
  ·rfl
  ·exact h
 have hkk : (F.set k.toNat true)[k.toNat]! = true := by rw [aP,if_pos ⟨rfl,by omega⟩]
 have key : ∀ x, F[x.toNat]! = true ∨ x ∈ T → (F.set k.toNat true)[x.toNat]! = true ∨ x ∈ T' := fun x h => by
  rcases h with h|h
  ·exact .inl (mono _ h)
  ·rcases h1 x h with rfl | h
   ·exact .inl hkk
   ·exact .inr h
 have hold : ∀ i, (F.set k.toNat true)[i]! = true → i = k.toNat ∨ F[i]! = true := fun i h => by
  rw [aP] at h;split at h
  ·rename_i e;exact .inl e.1.symm
  ·exact .inr h
 refine ⟨by rw [List.length_set]; exact hl,fun x hx => key x (I.src x hx),fun i hi h x hx => ?_,fun i hi h => ?_,fun x hx => ?_⟩
 ·rcases hold i h with rfl | h
  ·exact .inr (h2 x hx)
  ·exact key x (I.cl i hi h x hx)
 ·rcases hold i h with rfl | h
  ·exact hkl.2.2
  ·exact I.snd i hi h
 ·rcases h3 x hx with h | h
  ·exact I.tw x h
  ·have := w _ (by omega) x h
   exact ⟨this.1,this.2,.step hkl.2.2 ⟨by omega,by rw [Int.toNat_of_nonneg this.1]; exact h⟩⟩
theorem RI.fin {pts:List Pnt}{a:Nat}{F F0:List Bool}(I:RI pts a F []) (hF:GoodR pts a F0) (w:∀ i,i < pts.length → ∀ k ∈ pts[i]!.next,0 ≤ k ∧ k < pts.length):F = F0:=by
 refine aY (by rw [I.len,hF.l]) fun i hi => ?_
 rw [I.len] at hi
 rw [Bool.eq_iff_iff,hF.g i hi]
 refine ⟨I.snd i hi,fun h => ?_⟩
 have := Clo.sub (T := fun k => F[k]! = true) (fun k he => ?_) (fun x y hx he => ?_) i h
 ·exact this
 ·rcases I.src _ he.2 with h | h
  ·simpa using h
  ·cases h
 ·rcases I.cl x he.1 hx _ he.2 with h | h
  ·simpa using h
  ·cases h
theorem Ib {F:List Bool}{k:Nat}(hk:k < F.length) (h:F[k]! = false) (T:List Int):AF (F.set k true) T + 3 = AF F T:=by
 unfold AF
 have h1 : F[k] = false := by rw [← aW F k hk]; exact h
 have h2 : 0 < F.countP (fun b => !b) := List.countP_pos_iff.2 ⟨F[k],List.getElem_mem hk,by rw [h1]; rfl⟩
 rw [List.countP_set hk,h1]; simp;omega
theorem GV (F:List Bool) (T:List Int):T.length ≤ AF F T := by unfold AF;omega
theorem G9 (F:List Bool) (T S:List Int):AF F (T ++ S) = AF F T + S.length := by unfold AF;rw [List.length_append]; omega
theorem Cv {n:Nat}{T:List Int}(hn:n ≤ 61) (hT:T.length ≤ 2):AF (List.replicate n false) T ≤ 200:=by
 unfold AF
 have : (List.replicate n false).countP (fun b => !b) ≤ n := Nat.le_trans List.countP_le_length (by simp)
 omega
theorem D6 (E:List (Nat × Nat)) (a:Nat) (A B:List Int):fS E a (A ++ B) = fS (fS E a A) a B := by unfold fS;rw [List.foldl_append]
theorem Df (E:List (Nat × Nat)) (a:Nat) (L:List Int) (k:Nat):fS E a (L.take k) <+: fS E a L:=by
 have : fS E a L = fS (fS E a (L.take k)) a (L.drop k) := by rw [← D6,List.take_append_drop]
 rw [this]; exact eJ _ _ _
theorem E8 {pts:List Pnt}{f h a:Nat}(hlt:h < (iD f (gX pts f h)).length) (ha:a = (iD f (gX pts f h))[h]!):gX pts f (h + 1) = fS (gX pts f h) a pts[a]!.next:=by
 rw [gX,if_pos hlt,← ha]
theorem GZ (a b:List Nat):dT (a ++ b) = dT a ++ dT b := by unfold dT;simp
theorem EE {T:List Int}{m:Nat}:(flat cI T).take m = flat cI (T.take m):=by
 have := fK cI (e := 1) T m;rw [Nat.mul_one] at this;exact this
theorem Er {T:List Int}{m:Nat}(hm:m = T.length) (h:0 < m):T[m - 1]! ∈ T ∧ ∀ x ∈ T,x = T[m - 1]! ∨ x ∈ T.take (m - 1):=by
 subst hm
 refine ⟨aZ _ _ (by omega),fun x hx => ?_⟩
 have e : T = T.take (T.length - 1) ++ [T[T.length - 1]!] := by
  rw [← dK T _ (by omega),show T.length - 1 + 1 = T.length by omega,List.take_length]
 rw [e] at hx
 rcases List.mem_append.1 hx with h|h
 ·exact .inr h
 ·exact .inl (List.mem_singleton.1 h)
theorem GC {W:Nat → List Nat}{U:Nat → Bool}{m:Nat}(h:∀ j,(W j).length ≤ m) (i:Nat):(gR W U i).2.length ≤ m:=by
 rcases m7 W U i with ⟨_,e⟩ | ⟨j,_,_,_,e,_⟩
 ·rw [e]; exact Nat.zero_le _
 ·rw [e]; exact h j
theorem EV {pts:List Pnt}{f:Nat}(w:∀ i,i < pts.length → ∀ k ∈ pts[i]!.next,0 ≤ k ∧ k < pts.length) (hf:f < pts.length){U:Nat → Bool}{i:Nat}{bl:List Int}(hbl:bl = dT (gR (cO pts f) U i).2) (h0:bl.length ≠ 0) :
  bl[((bl.length : Int) - 1).toNat]! = (gR (cO pts f) U i).1 ∧ 0 ≤ (gR (cO pts f) U i).1 := by
 rcases m7 (cO pts f) U i with ⟨_,e⟩ | ⟨j,_,e1,_,e,hn⟩
 ·rw [hbl,e] at h0;exact absurd rfl h0
 ·refine ⟨?_, by omega⟩
  obtain ⟨T,hT⟩ := yF w hf ((eM w hf j).2 ((fY w hf).1 hn))
  rw [e1]
  have eb : bl = dT (f :: T) ++ [(j : Int)] := by rw [hbl,e,hT,← List.cons_append,GZ]; rfl
  have el : ((bl.length : Int) - 1).toNat = (dT (f :: T)).length := by rw [eb]; simp
  rw [el,eb,eO,if_neg (by omega),Nat.sub_self]; rfl
theorem HB {W:Nat → List Nat}{U:Nat → Bool}{i:Nat}:((gR W U i).1 < 0 ∧ (gR W U i).2.length = 0) ∨ (0 ≤ (gR W U i).1 ∧ 0 < (gR W U i).2.length):=by
 rcases m7 W U i with ⟨e1,e⟩ | ⟨j,_,e1,_,e,hn⟩
 ·rw [e,e1]; exact .inl ⟨by decide,rfl⟩
 ·rw [e,e1]; exact .inr ⟨by omega,List.length_pos_iff.2 hn⟩
theorem Rch.wy {pts:List Pnt}(r:Rch pts):∀ n t,t ≤ n → 0 < t → t < pts.length → Wy pts 0 t
 | n, t, hn, h0, ht => by
  obtain ⟨j,hj,e⟩ := r t h0 ht
  by_cases hz : j = 0
  ·subst hz;exact .base e
  ·cases n with
   | zero => omega
   | succ n => exact .step (r.wy n j (by omega) (by omega) e.1) e
def l3 (pts : List Pnt) (t : Nat) : List Nat := if t = 0 then [0] else cO pts 0 t
theorem nF {pts:List Pnt}(w:∀ i,i < pts.length → ∀ k ∈ pts[i]!.next,0 ≤ k ∧ k < pts.length) (h0:0 < pts.length) (t:Nat):(l3 pts t).length ≤ pts.length + 1:=by
 unfold l3;split
 ·simp
 ·exact eP w h0
end Go.AL
namespace Go.AL
def Ep (a b : Iss) : Bool := a.point == b.point && (a.kind == b.kind && a.with_ == b.with_)
theorem pR (a b:Iss):Ep a b = true ↔ a = b:=by
 unfold Ep
 simp only [Bool.and_eq_true,beq_iff_eq]
 constructor
 ·rintro ⟨h1,h2,h3⟩; cases a;cases b;simp only at h1 h2 h3;rw [h1,h2,h3]
 ·rintro rfl;exact ⟨rfl,rfl,rfl⟩
structure Tg where
 id : Int
 uq : Bool
 deriving Inhabited,DecidableEq
structure Cl where
 val : Int
 alive : Bool
 next : Int
 stk : List Tg
 deriving Inhabited,DecidableEq
structure Pt where
 cell : Int
 tag : Int
 deriving Inhabited,DecidableEq
structure Sl where
 set : Bool
 num : Int
 ptr : Pt
 deriving Inhabited,DecidableEq
def JL (t : Tg) : List AV := [iv t.id,bv t.uq]
def Ki (c : Cl) : List AV := [iv c.val,bv c.alive,iv c.next,sl JL c.stk]
def K8 (s : Sl) : List AV := [bv s.set,iv s.num,iv s.ptr.cell,iv s.ptr.tag]
instance : FlT JL 2:=⟨fun _ => rfl⟩
instance : FlT Ki 4:=⟨fun _ => rfl⟩
instance : FlT K8 4:=⟨fun _ => rfl⟩
instance : FE JL (fun t => [iv t.id,bv t.uq]):=⟨fun _ => rfl⟩
instance : FE Ki (fun c => [iv c.val,bv c.alive,iv c.next,sl JL c.stk]):=⟨fun _ => rfl⟩
instance : FE K8 (fun s => [bv s.set,iv s.num,iv s.ptr.cell,iv s.ptr.tag]):=⟨fun _ => rfl⟩
instance (t : Tg) : Pur (JL t):=⟨rfl⟩
instance (c : Cl) : Pur (Ki c):=⟨by show (true && (true && (true && ((sl JL c.stk).pur && true)))) = true;rw [a8]; rfl⟩
instance (s : Sl) : Pur (K8 s):=⟨rfl⟩
def KT (c : Cl) : Prop := c.stk.length = 200 ∨ c.next = 1000
instance (c : Cl) : Decidable (KT c) := by unfold KT;infer_instance
structure Co where
 val : Int
 alive : Bool
 next : Int
 av : AV
instance : Inhabited Co:=⟨⟨0,false,0,.imm 0 []⟩⟩
def II (c : Co) : List AV := [iv c.val,bv c.alive,iv c.next,c.av]
instance : FlT II 4:=⟨fun _ => rfl⟩
instance : FE II (fun c => [iv c.val,bv c.alive,iv c.next,c.av]):=⟨fun _ => rfl⟩
def Hs (c : Cl) : Co := ⟨c.val,c.alive,c.next,sl JL c.stk⟩
def Kq (m : List Cl) (j : Nat) (X : AV) : List Co := (m.map Hs).set j { Hs m[j]! with av := X }
theorem oG (m:List Cl):flat II (m.map Hs) = flat Ki m:=by
 unfold flat;rw [List.flatMap_map]; rfl
theorem xE {m:List Cl}{j:Nat}{X:AV}(h:j < m.length):flat II (Kq m j X) = flat Ki (m.take j) ++ ([iv m[j]!.val,bv m[j]!.alive,iv m[j]!.next] ++ X :: flat Ki (m.drop (j + 1))):=by
 unfold Kq
 rw [List.set_eq_take_append_cons_drop,if_pos (by rw [List.length_map]; exact h),← bX,← List.map_take,oG,← List.map_drop]
 congr 1
 show II _ ++ flat II _ = _
 rw [oG]; rfl
theorem vA {ρ:Nat → Option Nat}{m:List Cl}{j k i i':Nat}(hr:ρ i = some i'):RnL ρ (flat II (Kq m j (.own i 0 k 2))) (flat II (Kq m j (.own i' 0 k 2))):=by
 by_cases h : j < m.length
 ·rw [xE h, xE h]
  exact RnL.app (RnL.purI inferInstance) (RnL.app (RnL.purI inferInstance) (RnL.cons (RnV.own hr) (RnL.purI inferInstance)))
 ·have e : ∀ X, Kq m j X = m.map Hs := fun X => List.set_eq_of_length_le (by rw [List.length_map]; omega)
  rw [e,e,oG]
  exact RnL.purI inferInstance
open Go.RowKit Go.MapKept
theorem Fr.trans2 {W0 W1:Nat → Prop}{w0 w w':World}(h:Fr W0 w0 w) (k:Fr W1 w w') (hW:∀ b,W1 b → W0 b ∨ w0.heap.size ≤ b):Fr W0 w0 w' :=
 ⟨k.os.trans h.os, k.tape.trans h.tape, k.output.trans h.output, Nat.le_trans h.size k.size, fun b hb hw => by
  rw [k.block b (Nat.lt_of_lt_of_le hb h.size) (fun q => (hW b q).elim hw (fun h => by omega))]; exact h.block b hb hw,fun b => Nat.le_trans (h.bs b) (k.bs b)⟩
section
variable {P : Program} {N : Nat} {Q : Exit → AS → List Int → Prop} {s : AS} {r : Nat} {ks : List Int}
variable {all : Array Oper}
theorem D5 {o:Oper}{a:Act}{w:World}{K K':Act → World → Prop}{Q1 Q2:Exit → Act → World → Prop}(h:∀ a w,K a w → K' a w) (hq:∀ e a w,Q1 e a w → e = .normal)
  (hh : o.wp P a w K Q1) : o.wp P a w K' Q2 := by
 have hL : ¬ LetsOut Q1 := fun ⟨a,w,q⟩ => by cases hq _ _ _ q
 unfold Oper.wp at *
 generalize (execOp a.eval o).run P w = z at *
 cases z with
 | ok n w' =>
  cases n <;> simp only [Oper.upon] at hh ⊢ <;>
   first
    | exact h _ _ hh
    | exact Calls.mono hh (fun e w'' he => by cases e <;> first|exact h _ _ he|(cases hq _ _ _ he)|exact absurd he hL)
    | exact Rows.mono hh (fun _ _ he => h _ _ he)
 | halt x w' => cases x <;> simp only [Oper.upon] at hh ⊢ <;> (cases hq _ _ _ hh)
theorem jM {Q1 Q2:Exit → Act → World → Prop}{l2:List Oper}(k:∀ e a w,Q1 e a w → e = .normal ∧ wpList P all Q2 l2 a w):∀ (l1:List Oper) (a:Act) (w:World),wpList P all Q1 l1 a w → wpList P all Q2 (l1 ++ l2) a w
 | [],a,w,h => (k _ _ _ h).2
 | o :: l1, a, w, h => by
  have hL : ¬ LetsOut Q1 := fun ⟨a,w,q⟩ => by cases (k _ _ _ q).1
  rw [List.cons_append]
  unfold wpList at h ⊢
  split
  ·rename_i hw
   rw [if_pos hw] at h
   rcases h with h | ⟨_,h⟩
   ·exact .inl (D5 (fun a w => jM k l1 a w) (fun e a w q => (k e a w q).1) h)
   ·exact absurd h hL
  ·rename_i hw;rw [if_neg hw] at h;exact jM k l1 _ _ h
variable {rest : List Oper} {ts : List (Nat × AV)} {hs : List (Nat × Option (List AV))} {n : Nat} {z0 : Lo} {d : Nat} {ty : TypeId} {pos : String} {af : Array Edge}
end
mutual
def Ck : Stmt → Prop
 | .mk _ _ _ _ th el => (th.length ≤ 9223372036854775807 ∧ Gv th) ∧ (el.length ≤ 9223372036854775807 ∧ Gv el)
def Gv : List Stmt → Prop
 | [] => True
 | s :: l => Ck s ∧ Gv l
end
def Fq (l : List Stmt) : Prop := l.length ≤ 9223372036854775807 ∧ Gv l
theorem BJ:∀ {l:List Stmt}{s:Stmt},Gv l → s ∈ l → Ck s
 | a :: l, s, h, hm => by
  simp only [Gv] at h
  rcases List.mem_cons.1 hm with rfl|hm
  ·exact h.1
  ·exact BJ h.2 hm
theorem Jf {l:List Stmt}{k:Nat}(h:Fq l) (hk:k < l.length):Ck l[k]! := BJ h.2 (aZ l k hk)
theorem J1 {s:Stmt}(h:Ck s):Fq s.th ∧ Fq s.el:=by
 cases s
 simp only [Ck] at h
 exact h
theorem FM:∀ {l:List Stmt},(∀ s ∈ l,Ck s) → Gv l
 | [],_ => by simp only [Gv]
 | s :: l,h => by simp only [Gv]; exact ⟨h s (by simp),FM fun x hx => h x (by simp [hx])⟩
def lT : List Stmt → Nat
 | [] => 0
 | s :: l => aM s.th + aM s.el + lT l
theorem Fv:∀ l:List Stmt,aM l = l.length + lT l
 | [] => by simp [aM,lT]
 | s :: l => by
  have := Fv l
  simp only [aM,lT,hO,List.length_cons]; omega
theorem qO:∀ a b:List Stmt,lT (a ++ b) = lT a + lT b
 | [],b => by simp [lT]
 | s :: a, b => by
  have := qO a b
  simp only [List.cons_append,lT]; omega
theorem Ch {l:List Stmt}{k:Nat}(hk:k < l.length):lT (l.take (k + 1)) = lT (l.take k) + (aM l[k]!.th + aM l[k]!.el):=by
 have e : l.take (k + 1) = l.take k ++ [l[k]!] := by rw [aW _ _ hk,List.take_succ_eq_append_getElem hk]
 rw [e,qO]; simp only [lT]; omega
theorem Hg (l:List Stmt) (k:Nat):lT (l.take k) ≤ lT l:=by
 have := qO (l.take k) (l.drop k)
 rw [List.take_append_drop] at this;omega
def FY (c left : Int) : Int := if c ≤ left then left - c else -1
def K0 : Stmt := .mk 0 0 0 0 [] []
theorem FN {w:World}{bad:Nat → Prop}{ι:Pl}{b:Nat}:∀ (m β:Nat),RdC w bad ι ((List.replicate m ([Value.int .i64 0,.int .i64 0,.int .i64 0,.int .i64 0,.slice none 0 0,.slice none 0 0].map AV.v)).flatten) b β → RdC w bad ι (flat aR (List.replicate m K0)) b β
 | 0,_,_ => trivial
 | m + 1, β, h => by
  rw [List.replicate_succ,List.flatten_cons] at h
  rw [List.replicate_succ]
  obtain ⟨g0,g1,g2,g3,⟨x4,p4,q4,r4⟩,⟨x5,p5,q5,r5⟩,h4⟩ := h
  exact ⟨g0,g1,g2,g3,⟨x4,p4,q4,mG (av := .v (.slice none 0 0)) r4⟩,⟨x5,p5,q5,mG (av := .v (.slice none 0 0)) r5⟩,FN m _ h4⟩
theorem Le.zeroS {ts:List (Nat × AV)}{hs:List (Nat × Option (List AV))}{n:Nat}{z0:Lo}{i m:Nat}(hi:aO hs i = some ((List.replicate m ([Value.int .i64 0,.int .i64 0,.int .i64 0,.int .i64 0,.slice none 0 0,.slice none 0 0].map AV.v)).flatten)) :
  Le ⟨ts,hs,n,z0⟩ ⟨ts,(i,some (flat aR (List.replicate m K0))) :: hs,n,z0⟩ :=
 Le.cells hi (by rw [aK aR (e := 6)]; simp) fun w bad ι b β h => FN m β h
inductive TrH (w : World) : List Stmt → Value → List Nat → Prop
 | nil {a : Option Addr} {c : Nat} : TrH w [] (.slice a 0 c) []
 | cons {l : List Stmt} {b o c : Nat} {arr : Array Value} {ty : TypeId} {B : List Nat} (v4 v5 : Nat → Value) (B4 B5 : Nat → List Nat) : 0 < l.length → l.length ≤ c → w.heap[b]? = some (.cells arr ty (0, 0)) → o + c * 6 ≤ arr.size →
  (∀ i, i < l.length → w.cell? ⟨b, o + i * 6, none⟩ = some (.int .i64 l[i]!.op) ∧ w.cell? ⟨b, o + i * 6 + 1, none⟩ = some (.int .i64 l[i]!.x) ∧ w.cell? ⟨b, o + i * 6 + 2, none⟩ = some (.int .i64 l[i]!.y) ∧
   w.cell? ⟨b,o + i * 6 + 3,none⟩ = some (.int .i64 l[i]!.n) ∧ w.cell? ⟨b,o + i * 6 + 4,none⟩ = some (v4 i) ∧ w.cell? ⟨b,o + i * 6 + 5,none⟩ = some (v5 i)) →
  (∀ i,i < l.length → TrH w l[i]!.th (v4 i) (B4 i)) → (∀ i,i < l.length → TrH w l[i]!.el (v5 i) (B5 i)) → B = b :: (List.range l.length).flatMap (fun i => B4 i ++ B5 i) →
  TrH w l (.slice (some ⟨b,o,none⟩) l.length c) B
theorem TrH.one {w:World}{l:List Stmt}{v:Value}{B:List Nat}(h:TrH w l v B):v.oneCell' = true := by cases h <;> rfl
theorem TrH.lt {w:World}{l:List Stmt}{v:Value}{B:List Nat}(h:TrH w l v B):∀ b ∈ B,b < w.heap.size:=by
 induction h with
 | nil => intro b hb;cases hb
 | cons v4 v5 B4 B5 h1 h2 h3 h4 h5 h6 h7 h8 ih6 ih7 =>
  subst h8
  intro b hb
  rcases List.mem_cons.1 hb with rfl|hb
  ·exact cH h3
  ·obtain ⟨i, hi, hb⟩ := List.mem_flatMap.1 hb
   rw [List.mem_range] at hi
   rcases List.mem_append.1 hb with hb|hb
   ·exact ih6 i hi b hb
   ·exact ih7 i hi b hb
theorem TrH.stay {w w':World}{l:List Stmt}{v:Value}{B:List Nat}(h:TrH w l v B):(∀ b ∈ B,w'.heap[b]? = w.heap[b]?) → TrH w' l v B:=by
 induction h with
 | nil => intro _; exact .nil
 | @cons l b o c arr ty B v4 v5 B4 B5 h1 h2 h3 h4 h5 h6 h7 h8 ih6 ih7 =>
  subst h8
  intro hs
  have hb := hs b (List.mem_cons_self)
  have e : ∀ q,w'.cell? ⟨b,q,none⟩ = w.cell? ⟨b,q,none⟩ := fun q => bI hb q
  refine .cons v4 v5 B4 B5 h1 h2 (by rw [hb]; exact h3) h4 (fun i hi => ?_) (fun i hi => ih6 i hi fun q hq => hs q (List.mem_cons_of_mem _ (List.mem_flatMap.2 ⟨i,List.mem_range.2 hi,List.mem_append.2 (.inl hq)⟩))) (fun i hi => ih7 i hi fun q hq => hs q (List.mem_cons_of_mem _ (List.mem_flatMap.2 ⟨i,List.mem_range.2 hi,List.mem_append.2 (.inr hq)⟩))) rfl
  simp only [e]
  exact h5 i hi
theorem RdC_stm {w:World}{bad:Nat → Prop}{ι:Pl}{b:Nat}:∀ (l:List Stmt) (o:Nat),(∀ i,i < l.length → RdC w bad ι (aR l[i]!) b (o + i * 6)) → RdC w bad ι (flat aR l) b o
 | [],_,_ => by simp only [flat,List.flatMap_nil,RdC]
 | s :: l, o, h => by
  have e : flat aR (s :: l) = aR s ++ flat aR l := by simp only [flat,List.flatMap_cons]
  rw [e]
  have h0 := h 0 (by simp)
  refine RdC.append (by simpa using h0) (RdC_stm l _ fun i hi => ?_)
  have hi' := h (i + 1) (by simpa using hi)
  have e6 : (aR s).length = 6 := by rw [fN]; rfl
  rw [e6,show o + 6 + i * 6 = o + (i + 1) * 6 from by omega]
  simpa using hi'
theorem TrH.rd {w:World}{bad:Nat → Prop}{ι:Pl}{l:List Stmt}{v:Value}{B:List Nat}(h:TrH w l v B):(∀ b ∈ B,¬ bad b) → Rd w bad ι (sl aR l) v:=by
 induction h with
 | @nil a c =>
  intro _
  show Rd w bad ι (.imm 0 _) _
  simp only [Rd]
  exact ⟨a,c,rfl,.inl trivial⟩
 | @cons l b o c arr ty B v4 v5 B4 B5 h1 h2 h3 h4 h5 h6 h7 h8 ih6 ih7 =>
  subst h8
  intro hb
  show Rd w bad ι (.imm l.length _) _
  simp only [Rd]
  refine ⟨_,c,rfl,.inr ⟨b,o,h2,rfl,.inr ⟨hb b (List.mem_cons_self),RdC_stm _ _ fun i hi => ?_⟩⟩⟩
  obtain ⟨c0,c1,c2,c3,c4,c5⟩ := h5 i hi
  have r6 := ih6 i hi fun q hq => hb q (List.mem_cons_of_mem _ (List.mem_flatMap.2 ⟨i,List.mem_range.2 hi,List.mem_append.2 (.inl hq)⟩))
  have r7 := ih7 i hi fun q hq => hb q (List.mem_cons_of_mem _ (List.mem_flatMap.2 ⟨i,List.mem_range.2 hi,List.mem_append.2 (.inr hq)⟩))
  rw [fN]
  simp only [RdC]
  exact ⟨⟨_,c0,rfl,by simp only [Rd]⟩,⟨_,c1,rfl,by simp only [Rd]⟩,⟨_,c2,rfl,by simp only [Rd]⟩,⟨_,c3,rfl,by simp only [Rd]⟩,⟨_,c4,(h6 i hi).one,r6⟩,⟨_,c5,(h7 i hi).one,r7⟩,trivial⟩
inductive TrI (w : World) : List Int → Value → List Nat → Prop
 | nil {a : Option Addr} {c : Nat} : TrI w [] (.slice a 0 c) []
 | cons {l : List Int} {b o c : Nat} {arr : Array Value} {ty : TypeId} : 0 < l.length → l.length ≤ c → w.heap[b]? = some (.cells arr ty (0, 0)) → o + c ≤ arr.size → (∀ i, i < l.length → w.cell? ⟨b, o + i, none⟩ = some (.int .i64 l[i]!)) →
  TrI w l (.slice (some ⟨b,o,none⟩) l.length c) [b]
theorem u5 {w:World}{bad:Nat → Prop}{ι:Pl}{b:Nat}:∀ (zs:List Int) (o:Nat),(∀ j,j < zs.length → w.cell? ⟨b,o + j,none⟩ = some (.int .i64 zs[j]!)) → RdC w bad ι (flat cI zs) b o
 | [],_,_ => by simp only [flat,List.flatMap_nil,RdC]
 | x :: zs, o, h => by
  have h0 := h 0 (by simp)
  have e : flat cI (x :: zs) = iv x :: flat cI zs := rfl
  rw [e]
  simp only [RdC]
  refine ⟨⟨.int .i64 x,by simpa using h0,rfl,by simp only [Rd]⟩,u5 zs (o + 1) fun j hj => ?_⟩
  have := h (j + 1) (by simpa using hj)
  rw [show o + 1 + j = o + (j + 1) from by omega]
  simpa using this
inductive TD
 | ints (l : List Int)
 | stms (l : List Stmt)
def TD.av : TD → AV
 | .ints l => sl cI l
 | .stms l => sl aR l
def TrX (w : World) : TD → Value → List Nat → Prop
 | .ints l,v,B => TrI w l v B
 | .stms l,v,B => TrH w l v B
theorem TrX.one {w:World}{t:TD}{v:Value}{B:List Nat}(h:TrX w t v B):v.oneCell' = true:=by
 cases t with
 | ints l => simp only [TrX] at h;cases h <;> rfl
 | stms l => simp only [TrX] at h;exact h.one
theorem TrX.lt {w:World}{t:TD}{v:Value}{B:List Nat}(h:TrX w t v B):∀ b ∈ B,b < w.heap.size:=by
 cases t with
 | ints l =>
  simp only [TrX] at h
  cases h with
  | nil => intro b hb;cases hb
  | cons h1 h2 h3 h4 h5 => intro b hb;rw [List.mem_singleton] at hb;subst hb;exact cH h3
 | stms l => simp only [TrX] at h;exact h.lt
theorem TrX.stay {w w':World}{t:TD}{v:Value}{B:List Nat}(h:TrX w t v B) (hs:∀ b ∈ B,w'.heap[b]? = w.heap[b]?):TrX w' t v B:=by
 cases t with
 | ints l =>
  simp only [TrX] at h ⊢
  cases h with
  | nil => exact .nil
  | @cons _ b _ _ _ _ h1 h2 h3 h4 h5 =>
   have hb := hs b (by simp)
   exact .cons h1 h2 (by rw [hb]; exact h3) h4 fun i hi => by rw [bI hb]; exact h5 i hi
 | stms l => simp only [TrX] at h ⊢; exact h.stay hs
theorem TrX.rd {w:World}{bad:Nat → Prop}{ι:Pl}{t:TD}{v:Value}{B:List Nat}(h:TrX w t v B) (hb:∀ b ∈ B,¬ bad b):Rd w bad ι t.av v:=by
 cases t with
 | ints l =>
  simp only [TrX] at h
  cases h with
  | @nil a c =>
   show Rd w bad ι (.imm 0 _) _
   simp only [Rd]
   exact ⟨a,c,rfl,.inl trivial⟩
  | @cons _ b o c _ _ h1 h2 h3 h4 h5 =>
   show Rd w bad ι (.imm l.length _) _
   simp only [Rd]
   exact ⟨_,c,rfl,.inr ⟨b,o,h2,rfl,.inr ⟨hb b (by simp),u5 _ _ h5⟩⟩⟩
 | stms l => simp only [TrX] at h;exact h.rd hb
abbrev dO := List (TD × Value × List Nat)
def bl (E : dO) : List Nat := E.flatMap fun t => t.2.2
theorem kH (E E2:dO):bl (E ++ E2) = bl E ++ bl E2 := by unfold bl;exact List.flatMap_append
structure TrE (E : dO) (w : World) : Prop where
 t : ∀ t ∈ E,TrX w t.1 t.2.1 t.2.2
 nd : (bl E).Nodup
theorem TrE.lt {E:dO}{w:World}(h:TrE E w):∀ b ∈ bl E,b < w.heap.size := fun b hb => by
 obtain ⟨t,ht,hb⟩ := List.mem_flatMap.1 hb
 exact (h.t t ht).lt b hb
theorem TrE.stay {E:dO}{w w':World}(h:TrE E w) (hs:∀ b ∈ bl E,w'.heap[b]? = w.heap[b]?):TrE E w' :=
 ⟨fun t ht => (h.t t ht).stay fun b hb => hs b (List.mem_flatMap.2 ⟨t,ht,hb⟩),h.nd⟩
theorem TrE.app {E E2:dO}{w:World}(h:TrE E w) (h2:TrE E2 w) (hd:∀ b ∈ bl E,b ∉ bl E2):TrE (E ++ E2) w :=
 ⟨fun t ht => (List.mem_append.1 ht).elim (h.t t) (h2.t t), by
  rw [kH,List.nodup_append]
  exact ⟨h.nd,h2.nd,fun a ha b hb e => hd a ha (e ▸ hb)⟩⟩
def iM (C : Ctx) (wb : World) (E : dO) (hX : ∀ b,C.X b ∨ b ∈ bl E → b < wb.heap.size) : Ctx :=
 { N := C.N,w0 := wb,W0 := fun b => (C.W0 b ∨ C.w0.heap.size ≤ b) ∧ b ∉ bl E,X := fun b => C.X b ∨ b ∈ bl E,ι0 := C.ι0,xlt := hX }
def GsT (C : Ctx) (s : AS) (E : dO) (a : Act) (w : World) : Prop :=
 ∃ (wb : World) (hX : ∀ b,C.X b ∨ b ∈ bl E → b < wb.heap.size),Fr C.W0 C.w0 wb ∧ (∀ b ∈ bl E,C.w0.heap.size ≤ b ∨ C.W0 b) ∧ (∀ b ∈ bl E,¬ C.X b) ∧ TrE E wb ∧ Gs (iM C wb E hX) s a w
theorem GsT.tree {C:Ctx}{s:AS}{E:dO}{a:Act}{w:World}(h:GsT C s E a w):TrE E w:=by
 obtain ⟨wb,hX,f,h1,h2,h3,h0,ι,g,gh⟩ := h
 exact h3.stay fun b hb => gh.fr.block b (h3.lt b hb) (fun q => q.2 hb)
def dE (P : Program) (N : Nat) (c : Code) (Q : Exit → AS → dO → Prop) (E : dO) (s : AS) : Prop :=
 ∀ (C : Ctx) (a : Act) (w : World),C.N = N → GsT C s E a w → c.wp P (fun e a' w' => ∃ s' E',Q e s' E' ∧ GsT C s' E' a' w') a w
def B1 (P : Program) (N : Nat) (all : Array Oper) (Q : Exit → AS → dO → Prop) (E : dO) (l : List Oper) (s : AS) : Prop :=
 ∀ (C : Ctx) (a : Act) (w : World),C.N = N → GsT C s E a w → wpList P all (fun e a' w' => ∃ s' E',Q e s' E' ∧ GsT C s' E' a' w') l a w
def Bt (K : AS → dO → Prop) (Q : Exit → AS → dO → Prop) : Exit → AS → dO → Prop
 | .normal,s,E => K s E
 | e,s,E => Q e s E
def KI (id : Nat) (Q : Exit → AS → dO → Prop) : Exit → AS → dO → Prop
 | .exit i,s,E => if i = id then Q .normal s E else Q (.exit i) s E
 | e,s,E => Q e s E
section
variable {P : Program} {N : Nat} {Q : Exit → AS → dO → Prop} {s : AS} {E : dO}
theorem awt_lift {c:Code}(h:AW P N c (fun e s' => Q e s' E) s):dE P N c Q E s:=by
 rintro C a w hN ⟨wb,hX,f,h1,h2,h3,g⟩
 exact wp_mono (h (iM C wb E hX) a w hN g) fun e a' w' ⟨s',q1,q2⟩ => ⟨s',E,q1,wb,hX,f,h1,h2,h3,q2⟩
theorem aS {x y:Code}(h:dE P N x (Bt (fun s' E' => dE P N y Q E' s') Q) E s):dE P N (.seq x y) Q E s:=by
 intro C a w hN g
 refine wp_seq (wp_mono (h C a w hN g) ?_)
 rintro e a' w' ⟨s',ks',h1,h2⟩
 cases e with
 | normal => exact h1 C a' w' hN h2
 | _ => exact ⟨s',ks',h1,h2⟩
theorem k6 {x y:Code}{c:Operand}{b:Bool}(hc:ev (lk s.ts) c = some (.v (.bool b))) (h1:b = true → dE P N x Q E s) (h2:b = false → dE P N y Q E s):dE P N (.cond c x y) Q E s:=by
 intro C a w hN gT
 have gT' := gT
 obtain ⟨wb,hX,f,q1,q2,q3,h0,ι,g,gh⟩ := gT'
 have h := bQ g hc
 simp only [Rd] at h
 cases b
 ·exact wp_cond_false h (h2 rfl C a w hN gT)
 ·exact wp_cond_true h (h1 rfl C a w hN gT)
theorem lK {id:Nat}{c:Code}(h:dE P N c (KI id Q) E s):dE P N (.block id c) Q E s:=by
 intro C a w hN g
 refine wp_block (wp_mono (h C a w hN g) ?_)
 rintro e a' w' ⟨s',ks',h1,h2⟩
 cases e with
 | exit i =>
  simp only [Exit.inBlock,KI] at h1 ⊢
  split
  ·rename_i hi;rw [if_pos hi] at h1;exact ⟨s',ks',h1,h2⟩
  ·rename_i hi;rw [if_neg hi] at h1;exact ⟨s',ks',h1,h2⟩
 | _ => exact ⟨s',ks',h1,h2⟩
theorem k4 (h:Q .normal s E):dE P N .skip Q E s := fun C a w _ g => wp_skip ⟨s,E,h,g⟩
theorem yQ {id:Nat}(h:Q (.exit id) s E):dE P N (.exit id) Q E s := fun C a w _ g => wp_exit ⟨s,E,h,g⟩
theorem GsT.le {C:Ctx}{s s':AS}{E:dO}{a:Act}{w:World}(h:GsT C s E a w) (k:Le s s'):GsT C s' E a w:=by
 obtain ⟨wb,hX,f,h1,h2,h3,g⟩ := h
 exact ⟨wb,hX,f,h1,h2,h3,k _ _ _ g⟩
theorem IZ {c:Code}{s':AS}(h:dE P N c Q E s') (k:Le s s'):dE P N c Q E s := fun C a w hN g => h C a w hN (g.le k)
theorem ET {σ:Type}{c:Code}(p:σ → Prop) (I:σ → AS) (J:σ → dO) (μ:σ → Nat) (h0:∃ i,p i ∧ Le s (I i) ∧ J i = E)
  (round : ∀ i,p i → dE P N c (Bt (fun s' E' => ∃ j,p j ∧ μ j < μ i ∧ Le s' (I j) ∧ J j = E') Q) (J i) (I i)) : dE P N (.loop c) Q E s := by
 intro C a w hN g
 obtain ⟨i,h1,h2,h3⟩ := h0
 subst h3
 refine wp_loop (fun a w => ∃ i,p i ∧ GsT C (I i) (J i) a w) (fun a w => nM fun n => ∃ i,p i ∧ GsT C (I i) (J i) a w ∧ μ i = n) ⟨i,h1,g.le h2⟩ ?_
 rintro a w ⟨i0,hp0,hg0⟩
 obtain ⟨⟨i,hp,hg,hm⟩,hmin⟩ := gJ (S := fun n => ∃ i,p i ∧ GsT C (I i) (J i) a w ∧ μ i = n) ⟨_,i0,hp0,hg0,rfl⟩
 refine wp_mono (round i hp C a w hN hg) ?_
 rintro e a' w' ⟨s',ks',h3,h4⟩
 cases e with
 | normal =>
  obtain ⟨j,q1,q2,q3,rfl⟩ := h3
  have h5 : GsT C (I j) (J j) a' w' := h4.le q3
  refine ⟨⟨j,q1,h5⟩,?_⟩
  have := (gJ (S := fun n => ∃ i,p i ∧ GsT C (I i) (J i) a' w' ∧ μ i = n) ⟨_,j,q1,h5,rfl⟩).2 (μ j) ⟨j,q1,h5,rfl⟩
  omega
 | _ => exact ⟨s',ks',h3,h4⟩
theorem bH {id:Nat}{l:List Oper}(h:B1 P N l.toArray Q E l s):dE P N (.region id l.toArray false) Q E s :=
 fun C a w hN g => wp_region_lit (h C a w hN g)
variable {all : Array Oper}
theorem bO (h:Q .normal s E):B1 P N all Q E [] s := fun C a w _ g => wpList_nil ⟨s,E,h,g⟩
theorem aU {l1 l2:List Oper}(h:RW P N all (fun e s' => e = .normal ∧ B1 P N all Q E l2 s') .txt l1 s):B1 P N all Q E (l1 ++ l2) s:=by
 rintro C a w hN ⟨wb,hX,f,h1,h2,h3,g⟩
 exact jM (fun e a' w' ⟨s',⟨q1,q2⟩,q3⟩ => ⟨q1,q2 C a' w' hN ⟨wb,hX,f,h1,h2,h3,q3⟩⟩) l1 a w (h (iM C wb E hX) a w hN g)
end
theorem AG {E:dO}{t:TD × Value × List Nat}(h:t ∈ E){b:Nat}(hb:b ∈ t.2.2):b ∈ bl E := List.mem_flatMap.2 ⟨t,h,hb⟩
theorem TG.carryC {C C':Ctx}{ι ι':Pl}{T:Nat → Option AV}{H H':Nat → Option (List AV)}{a:Act}{w w':World}(hN:C'.N = C.N) (h:TG C ι T H a w) (k:Carry w (aE C.X ι H) ι w' (aE C'.X ι' H') ι'):TG C' ι' T H' a w' :=
 ⟨h.df,h.sz.trans hN.symm,fun t av ht => let ⟨y,h1,h2⟩ := h.tm t av ht; ⟨y,h1,Rd.carry k _ _ h2⟩⟩
theorem GsT.drop {C:Ctx}{s:AS}{E:dO}{a:Act}{w:World}(h:GsT C s E a w):Gs C s a w:=by
 obtain ⟨wb,hX,f,h1,h2,h3,h0,ι,g,gh⟩ := h
 have hb : ∀ b, aE C.X ι (aO s.hs) b → aE (iM C wb E hX).X ι (aO s.hs) b := by
  rintro b (q|q)
  ·exact .inl (.inl q)
  ·exact .inr q
 have car : Carry w (aE (iM C wb E hX).X ι (aO s.hs)) ι w (aE C.X ι (aO s.hs)) ι := ⟨fun b o x q1 q2 => ⟨fun q => q1 (hb b q),q2⟩,fun _ _ h => h,fun _ => Nat.le_refl _⟩
 have hW : ∀ b,(iM C wb E hX).W0 b → C.W0 b ∨ C.w0.heap.size ≤ b := fun b q => q.1
 refine ⟨h0,ι,TG.carryC (C := iM C wb E hX) (C' := C) rfl g car,⟨fun id cs h => ?_,gh.sep,f.trans2 gh.fr hW,gh.ex,gh.fresh⟩⟩
 rcases gh.obj id cs h with q | ⟨b,β,arr,e,q1,q2,q3,q4,q5,q6⟩
 ·exact .inl q
 ·refine .inr ⟨b, β, arr, e, q1, q2, q3, RdC.carryB car _ _ _ (fun _ _ hx => hx) q4, fun q => q5 (.inl q), ?_⟩
  rcases q6 with q6|q6
  ·exact hW b q6
  ·exact .inr (Nat.le_trans f.size q6)
theorem GsT.grow {C:Ctx}{s:AS}{E E2:dO}{a:Act}{w w':World}(h:GsT C s E a w) (f':Fr (fun _ => False) w w') (ht:TrE E2 w') (hf:∀ b ∈ bl E2,w.heap.size ≤ b):GsT C s (E ++ E2) a w':=by
 have hT := h.tree
 obtain ⟨wb,hX,f,h1,h2,h3,h0,ι,g,gh⟩ := h
 have hW : ∀ b,(iM C wb E hX).W0 b → C.W0 b ∨ C.w0.heap.size ≤ b := fun b q => q.1
 have fw : Fr C.W0 C.w0 w := f.trans2 gh.fr hW
 have fw' : Fr C.W0 C.w0 w' := fw.trans2 f' (fun _ q => q.elim)
 have hblk : ∀ b,b < w.heap.size → w'.heap[b]? = w.heap[b]? := fun b hb => f'.block b hb (fun q => q)
 have hT' : TrE (E ++ E2) w' := (hT.stay fun b hb => hblk b (hT.lt b hb)).app ht fun b hb q => by
  have := hT.lt b hb
  have := hf b q
  omega
 have hX' : ∀ b, C.X b ∨ b ∈ bl (E ++ E2) → b < w'.heap.size := by
  rintro b (q|q)
  ·exact Nat.lt_of_lt_of_le (C.xlt b q) fw'.size
  ·exact hT'.lt b q
 have hbad : ∀ b, b < w.heap.size → aE (iM C w' (E ++ E2) hX').X ι (aO s.hs) b → aE (iM C wb E hX).X ι (aO s.hs) b := by
  rintro b hlt (q|q)
  ·rcases q with q | q
   ·exact .inl (.inl q)
   ·rw [kH, List.mem_append] at q
    rcases q with q|q
    ·exact .inl (.inr q)
    ·have := hf b q;omega
  ·exact .inr q
 have car : Carry w (aE (iM C wb E hX).X ι (aO s.hs)) ι w' (aE (iM C w' (E ++ E2) hX').X ι (aO s.hs)) ι := ⟨fun b o x q1 q2 => ⟨fun q => q1 (hbad b (eS q2) q),by rw [bI (hblk b (eS q2))]; exact q2⟩,fun _ _ h => h,f'.bs⟩
 refine ⟨w',hX',fw',fun b hb => ?_,fun b hb hx => ?_,hT',h0,ι,TG.carryC (C := iM C wb E hX) (C' := iM C w' (E ++ E2) hX') rfl g car,⟨fun id cs h => ?_,gh.sep,Fr.refl _ _,gh.ex,gh.fresh⟩⟩
 ·rw [kH, List.mem_append] at hb
  rcases hb with hb|hb
  ·exact h1 b hb
  ·exact .inl (Nat.le_trans fw.size (hf b hb))
 ·rw [kH, List.mem_append] at hb
  rcases hb with hb|hb
  ·exact h2 b hb hx
  ·have := hf b hb
   have := C.xlt b hx
   have := fw.size
   omega
 ·rcases gh.obj id cs h with q | ⟨b, β, arr, e, q1, q2, q3, q4, q5, q6⟩
  ·exact .inl q
  ·have hlt := cH q2
   have hbl := hblk b hlt
   refine .inr ⟨b,β,arr,e,q1,by rw [hbl]; exact q2,q3,RdC.carryB car _ _ _ (fun o y hy => by rw [bI hbl]; exact hy) q4,?_,.inl ⟨?_,?_⟩⟩
   ·rintro (q | q)
    ·exact q5 (.inl q)
    ·rw [kH, List.mem_append] at q
     rcases q with q|q
     ·exact q5 (.inr q)
     ·have := hf b q;omega
   ·rcases q6 with q6 | q6
    ·exact hW b q6
    ·exact .inr (Nat.le_trans f.size q6)
   ·intro q
    rw [kH,List.mem_append] at q
    rcases q with q|q
    ·exact q5 (.inr q)
    ·have := hf b q;omega
theorem GsT.of {C:Ctx}{s:AS}{a:Act}{w:World}(h:Gs C s a w):GsT C s [] a w:=by
 obtain ⟨h0,ι,g,gh⟩ := h
 have hX : ∀ b, C.X b ∨ b ∈ bl [] → b < w.heap.size := by
  rintro b (q|q)
  ·exact Nat.lt_of_lt_of_le (C.xlt b q) gh.fr.size
  ·cases q
 have hbad : ∀ b, aE (iM C w [] hX).X ι (aO s.hs) b → aE C.X ι (aO s.hs) b := by
  rintro b (q|q)
  ·rcases q with q | q
   ·exact .inl q
   ·cases q
  ·exact .inr q
 have car : Carry w (aE C.X ι (aO s.hs)) ι w (aE (iM C w [] hX).X ι (aO s.hs)) ι := ⟨fun b o x q1 q2 => ⟨fun q => q1 (hbad b q),q2⟩,fun _ _ h => h,fun _ => Nat.le_refl _⟩
 refine ⟨w,hX,gh.fr,fun b hb => (by cases hb),fun b hb => (by cases hb),⟨fun t ht => (by cases ht),List.nodup_nil⟩,h0,ι,TG.carryC (C := C) (C' := iM C w [] hX) rfl g car,⟨fun id cs h => ?_,gh.sep,Fr.refl _ _,gh.ex,gh.fresh⟩⟩
 rcases gh.obj id cs h with q | ⟨b,β,arr,e,q1,q2,q3,q4,q5,q6⟩
 ·exact .inl q
 ·refine .inr ⟨b, β, arr, e, q1, q2, q3, RdC.carryB car _ _ _ (fun _ _ hx => hx) q4, ?_, .inl ⟨q6, fun q => by cases q⟩⟩
  rintro (q|q)
  ·exact q5 q
  ·cases q
def rT (P : Program) (k : FuncId) (args : List AV) (R : AV → dO → Prop) : Prop :=
 ∀ (w : World) (bad : Nat → Prop) (vals : List Value), (∀ b, bad b → b < w.heap.size) → RdV w bad (fun _ => none) args vals →
  Calls P k vals.toArray w (fun e w' => ∃ v r E,e = .returned v ∧ R r E ∧ r.free = true ∧ Rd w' (fun _ => False) (fun _ => none) r v ∧ Fr (fun _ => False) w w' ∧ TrE E w' ∧ ∀ b ∈ bl E,w.heap.size ≤ b)
theorem eF {P:Program}{k:FuncId}{args:List AV}{r:AV}(h:PC P k args (fun x => x = r)) (hf:r.free = true):rT P k args (fun x E => x = r ∧ E = []):=by
 intro w bad vals hb hv
 let C' : Ctx := { N := 0,w0 := w,W0 := fun _ => False,X := bad,ι0 := fun _ => none,xlt := hb }
 have hbad : ∀ b,aE C'.X (fun _ => none) (aO []) b → bad b := fun b q => (by rcases q with q | ⟨id,cs,β,q1,q2⟩ <;> first|exact q|cases q2)
 have g' : HG C' (fun _ => none) (fun j => 0 ≤ j) (aO []) w :=
  ⟨fun id cs h => by simp [aO] at h,fun id id' cs cs' b β β' h => by simp [aO] at h,Fr.refl _ _,fun _ _ h => h,fun _ _ => rfl⟩
 have hcar : Carry w bad (fun _ => none) w (aE C'.X (fun _ => none) (aO [])) (fun _ => none) := ⟨fun b o x h1 h2 => ⟨fun h => h1 (hbad b h),h2⟩,fun _ _ h => h,fun _ => Nat.le_refl _⟩
 refine (h C' _ w _ rfl rfl g' (RdV.carry hcar _ _ hv)).mono ?_
 rintro e w' ⟨v,r',H',ι',rfl,⟨rfl,_⟩,h4,h5⟩
 exact ⟨v,r',[],rfl,⟨rfl,rfl⟩,hf,Rd.free _ _ hf h4,h5.fr,⟨fun t ht => (by cases ht),List.nodup_nil⟩,fun b hb => (by cases hb)⟩
mutual
inductive LdT (E : dO) : AV → AV → Prop
 | pur {v : AV} : v.pur = true → LdT E v v
 | tree {t : TD} {y : Value} {B : List Nat} : (t,y,B) ∈ E → LdT E (.v y) t.av
 | agg {cs cs' : List AV} : LdTL E cs cs' → LdT E (.agg cs) (.agg cs')
inductive LdTL (E : dO) : List AV → List AV → Prop
 | nil : LdTL E [] []
 | cons {c c' : AV} {cs cs' : List AV} : LdT E c c' → LdTL E cs cs' → LdTL E (c :: cs) (c' :: cs')
end
section
variable {E : dO} {w : World} {bad bad2 : Nat → Prop} {ι : Pl}
mutual
theorem LdT.ok (hT:TrE E w) (h2:∀ b,bad2 b → bad b ∧ b ∉ bl E):∀ {v v':AV},LdT E v v' → ∀ {y:Value},Rd w bad ι v y → Rd w bad2 (fun _ => none) v' y
 | _,_,.pur hp,y,k => Rd.pur _ y hp (Rd.carry (⟨fun b o x q1 q2 => ⟨fun q => q1 (h2 b q).1,q2⟩,fun _ _ h => h,fun _ => Nat.le_refl _⟩ : Carry w bad ι w bad2 ι) _ _ k)
 | _, _, .tree (t := t) (y := y0) (B := B) hm, y, k => by
  simp only [Rd] at k
  subst k
  exact (hT.t _ hm).rd fun b hb q => (h2 b q).2 (AG hm hb)
 | _, _, .agg h3, y, k => by
  simp only [Rd] at k ⊢
  obtain ⟨l,q1,q2⟩ := k
  exact ⟨l,q1,LdTL.okL hT h2 h3 q2⟩
theorem LdTL.okL (hT:TrE E w) (h2:∀ b,bad2 b → bad b ∧ b ∉ bl E):∀ {v v':List AV},LdTL E v v' → ∀ {y:List Value},RdL w bad ι v y → RdL w bad2 (fun _ => none) v' y
 | _,_,.nil,y,k => by simpa only [RdL] using k
 | _, _, .cons q1 q2, y, k => by
  simp only [RdL] at k ⊢
  obtain ⟨x,l',rfl,p1,p2,p3⟩ := k
  exact ⟨x,l',rfl,p1,LdT.ok hT h2 q1 p2,LdTL.okL hT h2 q2 p3⟩
end
theorem LdTL.okV (hT:TrE E w) (h2:∀ b,bad2 b → bad b ∧ b ∉ bl E):∀ {v v':List AV},LdTL E v v' → ∀ {y:List Value},RdV w bad ι v y → RdV w bad2 (fun _ => none) v' y
 | _,_,.nil,y,k => by simpa only [RdV] using k
 | _, _, .cons q1 q2, y, k => by
  simp only [RdV] at k ⊢
  obtain ⟨x,l',rfl,p2,p3⟩ := k
  exact ⟨x,l',rfl,LdT.ok hT h2 q1 p2,LdTL.okV hT h2 q2 p3⟩
end
theorem GsT.put {C:Ctx}{ts:List (Nat × AV)}{hs:List (Nat × Option (List AV))}{n:Nat}{z0:Lo}{E:dO}{a:Act}{w:World}(h:GsT C ⟨ts,hs,n,z0⟩ E a w){d:Nat}(hd:d < C.N){r:AV}{v:Value}(hf:r.free = true){bad:Nat → Prop}{ι0:Pl}(hr:Rd w bad ι0 r v) :
  GsT C ⟨(d,r) :: ts,hs,n,z0⟩ E (a.put (some d) v) w := by
 obtain ⟨wb,hX,f,h1,h2,h3,h0,ι,g,gh⟩ := h
 refine ⟨wb,hX,f,h1,h2,h3,h0,ι,?_,gh⟩
 show TG (iM C wb E hX) ι (lk ((d,r) :: ts)) _ _ _
 rw [nJ]
 exact g.put (C := iM C wb E hX) hd (Rd.free _ _ hf hr)
section
variable {P : Program} {N : Nat} {Q : Exit → AS → dO → Prop} {E : dO} {all : Array Oper} {rest : List Oper} {ts : List (Nat × AV)} {hs : List (Nat × Option (List AV))} {n : Nat} {z0 : Lo} {d : Nat} {ty : TypeId} {pos : String} {af : Array Edge}
theorem b7 {k:FuncId}{args:Array Operand}{tys:Array TypeId}{avs avs2:List AV}{R:AV → dO → Prop}[hc:CaT P k] (ha:evL (lk ts) args.toList = some avs) (hl:LdTL E avs avs2) (h:rT P k avs2 R) (hN:Nat.blt d N = true)
  (kk : ∀ r E2,R r E2 → B1 P N all Q (E ++ E2) rest ⟨(d,r) :: ts,hs,n,z0⟩) : B1 P N all Q E (⟨some d,.call ⟨.value (.func k),args,tys⟩,ty,pos,af,none⟩ :: rest) ⟨ts,hs,n,z0⟩ := by
 intro C a w hCN gT
 refine wpList_plain rfl (fun K hK => ?_)
 simp only [Oper.wp,eT hc.pf,Oper.upon]
 have hT := gT.tree
 have gT' := gT
 obtain ⟨wb,hX,f,h1,h2,h3,h0,ι,g,gh⟩ := gT'
 have hv := gA g ha
 refine (h w (fun b => aE (iM C wb E hX).X ι (aO hs) b ∧ b ∉ bl E) _ (fun b q => gh.bad_lt b q.1) (hl.okV hT (fun b q => q) hv)).mono ?_
 rintro e w' ⟨v,r,E2,rfl,hR,hf,hr,hfr,hT2,hfs⟩
 exact hK _ _ (kk r E2 hR C _ _ hCN ((gT.grow hfr hT2 hfs).put (hCN.symm ▸ dD hN) hf hr))
end
def AY (P : Program) (res : Array ResultVar) (R : AV → dO → Prop) (e : Exit) (s : AS) (E : dO) : Prop :=
 (e = .ret ∨ e = .normal) ∧ ∃ l, jG P (lk s.ts) (aO s.hs) res.toList = some l ∧ ∀ (C : Ctx) (ι : Pl) (F : Nat → Prop) (w : World) (y : Value), HG C ι F (aO s.hs) w → Rd w (aE C.X ι (aO s.hs)) ι (aN l) y → TrE E w →
  (∀ id cs b β,aO s.hs id = some cs → ι id = some (some (b,β)) → b ∉ bl E) → ∃ r E',R r E' ∧ r.free = true ∧ Rd w (fun _ => False) (fun _ => none) r y ∧ TrE E' w ∧ ∀ b ∈ bl E',b ∈ bl E ∨ ∃ id cs β,aO s.hs id = some cs ∧ ι id = some (some (b,β))
theorem b0 {P:Program}{k:FuncId}{fn:Func}{c:Code}{args:List AV}{R:AV → dO → Prop}(hf:P.funcs[k]? = some fn) (hb:fn.body = some c) (hN:args.length ≤ fn.ntmps)
  (h : dE P fn.ntmps c (AY P fn.results R) [] ⟨dB 0 args,[],0,⟨0,aT⟩⟩) : rT P k args R := by
 intro w bad vals hbd hr
 refine calls_of_wp hf hb ?_
 let C' : Ctx := { N := fn.ntmps,w0 := w,W0 := fun _ => False,X := bad,ι0 := fun _ => none,xlt := hbd }
 have hlen := RdV.length hr
 have hbad : ∀ b,aE C'.X (fun _ => none) (aO []) b → bad b := fun b q => (by rcases q with q | ⟨id,cs,β,q1,q2⟩ <;> first|exact q|cases q2)
 have hcar : Carry w bad (fun _ => none) w (aE C'.X (fun _ => none) (aO [])) (fun _ => none) := ⟨fun b o x h1 h2 => ⟨fun h => h1 (hbad b h),h2⟩,fun _ _ h => h,fun _ => Nat.le_refl _⟩
 have hr' := RdV.carry hcar _ _ hr
 have g' : HG C' (fun _ => none) (Fn 0 ⟨0, aT⟩) (aO []) w :=
  ⟨fun id cs h => by simp [aO] at h,fun id id' cs cs' b β β' h => by simp [aO] at h,Fr.refl _ _,fun _ _ h => h,fun _ _ => rfl⟩
 have gt : TG C' (fun _ => none) (lk (dB 0 args)) (aO []) { tmps := vals.toArray ++ Array.replicate (fn.ntmps - vals.toArray.size) undef, defers := [] } w := by
  refine ⟨rfl,by simp [C',hlen]; omega,fun t av ht => ?_⟩
  obtain ⟨y,_,h1,h2⟩ := jE hr' ht
  refine ⟨y,?_,h2⟩
  have hlt : t < vals.length := by
   rcases Nat.lt_or_ge t vals.length with q|q
   ·exact q
   ·rw [List.getElem?_eq_none (by simpa using q)] at h1;cases h1
  rw [Array.getElem?_append_left (by simpa using hlt)]
  simpa using h1
 have gs : Gs C' ⟨dB 0 args,[],0,⟨0,aT⟩⟩ { tmps := vals.toArray ++ Array.replicate (fn.ntmps - vals.toArray.size) undef,defers := [] } w := ⟨fun id _ => .inr rfl,_,gt,g'⟩
 refine wp_mono (h C' _ w rfl (GsT.of gs)) ?_
 rintro e a' w' ⟨s1,E,⟨he,l,hres,hfin⟩,gT⟩
 have hT := gT.tree
 have gD := gT.drop
 have hfr : Fr (fun _ => False) w w' := by obtain ⟨_,_,_,gh⟩ := gD;exact gh.fr
 obtain ⟨wb,hX,f,h1,h2,h3,h0,ι,g1,g2⟩ := gT
 obtain ⟨ys,q1,q2⟩ := lE (P := P) g1 g2 hres
 have hres' : (results fn a'.tmps).run P w' = .ok (if h : ys.toArray.size = 1 then ys.toArray[0] else .tuple ys.toArray) w' := by
  have hr1 : results fn a'.tmps = (do let vs ← fn.results.mapM (rX a'); pure (if h : vs.size = 1 then vs[0] else .tuple vs)) := by
   unfold results
   congr 1
  rw [hr1,Array.mapM_eq_mapM_toList,Sem.run_bind,Sem.run_map,q1]
  simp only [Result.andThen_ok,Sem.run_pure]
 obtain ⟨r, E', p1, p2, p3, p4, p5⟩ := hfin (iM C' wb E hX) ι _ w' _ g2 (kN q2) hT (fun id cs b β r1 r2 r3 => by
  rcases g2.obj id cs r1 with ⟨q,_⟩ | ⟨b',β',arr,e',q,q4,q5,q6,q7,q8⟩
  ·rw [q] at r2;cases r2
  ·rw [q] at r2;cases r2;exact q7 (.inr r3))
 have hfs : ∀ b ∈ bl E', w.heap.size ≤ b := fun b hb => by
  rcases p5 b hb with q | ⟨id,cs,β,r1,r2⟩
  ·rcases h1 b q with q | q
   ·exact q
   ·exact q.elim
  ·rcases g2.obj id cs r1 with ⟨q, _⟩ | ⟨b', β', arr, e', q, q4, q5, q6, q7, q8⟩
   ·rw [q] at r2;cases r2
   ·rw [q] at r2; cases r2
    rcases q8 with q8|q8
    ·rcases q8.1 with q | q
     ·exact q.elim
     ·exact q
    ·exact Nat.le_trans f.size q8
 rcases he with rfl|rfl
 ·exact ⟨g1.df,_,hres',_,r,E',rfl,p1,p2,p3,hfr,p4,hfs⟩
 ·exact ⟨g1.df,_,hres',_,r,E',rfl,p1,p2,p3,hfr,p4,hfs⟩
theorem mN {w:World}{bad:Nat → Prop}{ι:Pl}{b:Nat}:∀ (zs:List Int) (o:Nat),RdC w bad ι (flat cI zs) b o → ∀ j,j < zs.length → w.cell? ⟨b,o + j,none⟩ = some (.int .i64 zs[j]!)
 | [],_,_,j,hj => by simp at hj
 | x :: zs, o, h, j, hj => by
  have e : flat cI (x :: zs) = iv x :: flat cI zs := rfl
  rw [e] at h
  simp only [RdC] at h
  obtain ⟨⟨v,h1,_,h3⟩,h4⟩ := h
  simp only [Rd] at h3
  subst h3
  cases j with
  | zero => simpa using h1
  | succ j =>
   have := mN zs (o + 1) h4 j (by simpa using hj)
   rw [show o + (j + 1) = o + 1 + j from by omega]
   simpa using this
abbrev SX := Stmt × (Value × List Nat) × (Value × List Nat)
def cT (x : SX) : List AV := [iv x.1.op,iv x.1.x,iv x.1.y,iv x.1.n,.v x.2.1.1,.v x.2.2.1]
instance : FlT cT 6:=⟨fun _ => rfl⟩
instance : FE cT (fun x => [iv x.1.op,iv x.1.x,iv x.1.y,iv x.1.n,.v x.2.1.1,.v x.2.2.1]):=⟨fun _ => rfl⟩
instance (x : SX) : Pur (cT x):=⟨rfl⟩
def j4 (xs : List SX) : dO := xs.flatMap fun x => [(.stms x.1.th,x.2.1.1,x.2.1.2),(.stms x.1.el,x.2.2.1,x.2.2.2)]
theorem F6 (xs:List SX) (x:SX):j4 (xs ++ [x]) = j4 xs ++ [(.stms x.1.th,x.2.1.1,x.2.1.2),(.stms x.1.el,x.2.2.1,x.2.2.2)]:=by
 unfold j4;rw [List.flatMap_append]; simp
theorem Ai (xs:List SX):bl (j4 xs) = (List.range xs.length).flatMap fun i => xs[i]!.2.1.2 ++ xs[i]!.2.2.2:=by
 have e : xs = (List.range xs.length).map fun i => xs[i]! := by
  refine List.ext_getElem (by simp) fun i h1 h2 => ?_
  rw [List.getElem_map,List.getElem_range,aW _ _ h1]
 have : bl (j4 xs) = xs.flatMap fun x => x.2.1.2 ++ x.2.2.2 := by
  unfold bl j4
  rw [List.flatMap_assoc]
  congr 1
  funext x
  simp
 rw [this]
 conv => lhs;rw [e,List.flatMap_map]
theorem uJ {w : World} {bad : Nat → Prop} {ι : Pl} {b : Nat} : ∀ (xs : List SX) (o : Nat), RdC w bad ι (flat cT xs) b o → ∀ i, i < xs.length → w.cell? ⟨b, o + i * 6, none⟩ = some (.int .i64 xs[i]!.1.op) ∧ w.cell? ⟨b, o + i * 6 + 1, none⟩ = some (.int .i64 xs[i]!.1.x) ∧ w.cell? ⟨b, o + i * 6 + 2, none⟩ = some (.int .i64 xs[i]!.1.y) ∧
   w.cell? ⟨b,o + i * 6 + 3,none⟩ = some (.int .i64 xs[i]!.1.n) ∧ w.cell? ⟨b,o + i * 6 + 4,none⟩ = some xs[i]!.2.1.1 ∧ w.cell? ⟨b,o + i * 6 + 5,none⟩ = some xs[i]!.2.2.1
 | [],_,_,j,hj => by simp at hj
 | x :: xs, o, h, j, hj => by
  have e : flat cT (x :: xs) = iv x.1.op :: iv x.1.x :: iv x.1.y :: iv x.1.n :: .v x.2.1.1 :: .v x.2.2.1 :: flat cT xs := rfl
  rw [e] at h
  simp only [RdC] at h
  obtain ⟨⟨a0,p0,_,r0⟩,⟨a1,p1,_,r1⟩,⟨a2,p2,_,r2⟩,⟨a3,p3,_,r3⟩,⟨a4,p4,_,r4⟩,⟨a5,p5,_,r5⟩,h6⟩ := h
  simp only [Rd] at r0 r1 r2 r3 r4 r5
  subst r0 r1 r2 r3 r4 r5
  cases j with
  | zero => exact ⟨by simpa using p0,by simpa using p1,by simpa using p2,by simpa using p3,by simpa using p4,by simpa using p5⟩
  | succ j =>
   have := uJ xs (o + 6) (by simpa [Nat.add_assoc] using h6) j (by simpa using hj)
   rw [show o + (j + 1) * 6 = o + 6 + j * 6 from by omega]
   simpa using this
theorem uS {P:Program}{res:Array ResultVar}{R:AV → dO → Prop}{s:AS}{E:dO}{l:List AV}(hr:jG P (lk s.ts) (aO s.hs) res.toList = some l){r:AV}(e:aN l = r) (hf:r.free = true) (hR:R r E):AY P res R .ret s E:=by
 subst e
 exact ⟨.inl rfl,l,hr,fun C ι F w y g hy hT hd => ⟨_,E,hR,hf,Rd.free _ _ hf hy,hT,fun b hb => .inl hb⟩⟩
theorem AK {C:Ctx}{ι:Pl}{F:Nat → Prop}{H:Nat → Option (List AV)}{w:World}(g:HG C ι F H w){i n e:Nat}{y:Value}{cs:List AV}(hy:Rd w (aE C.X ι H) ι (.own i 0 n e) y) (hH:H i = some cs) (hn:0 < n) :
  ∃ (b β c : Nat) (arr : Array Value) (el : TypeId),ι i = some (some (b,β)) ∧ y = .slice (some ⟨b,β,none⟩) n c ∧ n ≤ c ∧ w.heap[b]? = some (.cells arr el (0,0)) ∧ β + c * e ≤ arr.size ∧ RdC w (aE C.X ι H) ι cs b β := by
 simp only [Rd] at hy
 rcases hy with ⟨_,q,_⟩ | ⟨b,β,c,q1,q2,q3,q4⟩
 ·omega
 ·rcases g.obj i cs hH with ⟨q, _⟩ | ⟨b', β', arr, el, p1, p2, p3, p4, p5, p6⟩
  ·rw [q] at q1;cases q1
  ·rw [p1] at q1; cases q1
   exact ⟨_,_,c,arr,el,p1,by rw [Nat.add_zero] at q2;exact q2,q3,p2,by unfold n6 at q4;rw [p2] at q4;simpa using q4,p4⟩
theorem uZ {w:World}{bad:Nat → Prop}{ι:Pl}{i e:Nat}{y:Value}(hy:Rd w bad ι (.own i 0 0 e) y):∃ a c,y = .slice a 0 c:=by
 simp only [Rd] at hy
 rcases hy with ⟨_,_,a,rfl⟩ | ⟨b,β,c,_,rfl,_⟩
 ·exact ⟨_,_,rfl⟩
 ·exact ⟨_,_,rfl⟩
theorem TrE.one {t:TD}{y:Value}{B:List Nat}{w:World}(h:TrX w t y B) (hn:B.Nodup):TrE [(t,y,B)] w :=
 ⟨fun x hx => by rw [List.mem_singleton] at hx;subst hx;exact h,by simpa [bl] using hn⟩
theorem HR {P:Program}{res:Array ResultVar}{R:AV → dO → Prop}{s:AS}{l:List AV}(hr:jG P (lk s.ts) (aO s.hs) res.toList = some l){i n:Nat}{L:List Int}(e:aN l = .own i 0 n 1) (hH:aO s.hs i = some (flat cI L)) (hn:n = L.length)
  (hR : ∀ a c B,R (.v (.slice a L.length c)) [(.ints L,.slice a L.length c,B)]) : AY P res R .ret s [] := by
 subst hn
 refine ⟨.inl rfl,l,hr,fun C ι F w y g hy hT hd => ?_⟩
 rw [e] at hy
 rcases Nat.eq_zero_or_pos L.length with h0|h0
 ·have hL : L = [] := List.eq_nil_of_length_eq_zero h0
  subst hL
  obtain ⟨a,c,rfl⟩ := uZ hy
  exact ⟨_,_,hR a c [],rfl,(by simp only [Rd]; rfl),TrE.one (show TrI w [] _ _ from .nil) List.nodup_nil,fun b hb => by simp [bl] at hb⟩
 ·obtain ⟨b, β, c, arr, el, q1, rfl, q3, q4, q5, q6⟩ := AK g hy hH h0
  refine ⟨_,_,hR (some ⟨b,β,none⟩) c [b],rfl,by simp only [Rd],TrE.one (by simp only [TrX]; exact .cons h0 q3 q4 (by omega) (mN L β q6)) (by simp),fun b' hb => .inr ⟨i,_,β,hH,?_⟩⟩
  simp [bl] at hb
  subst hb;exact q1
theorem Ia {P:Program}{res:Array ResultVar}{R:AV → dO → Prop}{s:AS}{l:List AV}(hr:jG P (lk s.ts) (aO s.hs) res.toList = some l){i n:Nat}{xs:List SX}(e:aN l = .own i 0 n 6) (hH:aO s.hs i = some (flat cT xs)) (hn:n = xs.length)
  (hR : ∀ a c B,R (.v (.slice a xs.length c)) [(.stms (xs.map (·.1)),.slice a xs.length c,B)]) : AY P res R .ret s (j4 xs) := by
 subst hn
 refine ⟨.inl rfl,l,hr,fun C ι F w y g hy hT hd => ?_⟩
 rw [e] at hy
 rcases Nat.eq_zero_or_pos xs.length with h0|h0
 ·have hL : xs = [] := List.eq_nil_of_length_eq_zero h0
  subst hL
  obtain ⟨a,c,rfl⟩ := uZ hy
  exact ⟨_,_,hR a c [],rfl,(by simp only [Rd]; rfl),TrE.one (show TrH w [] _ _ from .nil) List.nodup_nil,fun b hb => by simp [bl] at hb⟩
 ·obtain ⟨b, β, c, arr, el, q1, rfl, q3, q4, q5, q6⟩ := AK g hy hH h0
  have hl : (xs.map (·.1)).length = xs.length := by simp
  have hx : ∀ i,i < xs.length → (xs.map (·.1))[i]! = xs[i]!.1 := fun i hi => by rw [aW _ _ (by simpa using hi),aW _ _ hi,List.getElem_map]
  have hm : ∀ i, i < xs.length → TrH w xs[i]!.1.th xs[i]!.2.1.1 xs[i]!.2.1.2 ∧ TrH w xs[i]!.1.el xs[i]!.2.2.1 xs[i]!.2.2.2 := fun i hi => by
   have hin := aZ xs i hi
   have h4 := hT.t (.stms xs[i]!.1.th,xs[i]!.2.1.1,xs[i]!.2.1.2) (List.mem_flatMap.2 ⟨_,hin,by simp⟩)
   have h5 := hT.t (.stms xs[i]!.1.el,xs[i]!.2.2.1,xs[i]!.2.2.2) (List.mem_flatMap.2 ⟨_,hin,by simp⟩)
   simp only [TrX] at h4 h5
   exact ⟨h4,h5⟩
  have hcell := uJ xs β q6
  have htr : TrH w (xs.map (·.1)) (.slice (some ⟨b, β, none⟩) (xs.map (·.1)).length c) (b :: bl (j4 xs)) := by
   refine .cons (fun i => xs[i]!.2.1.1) (fun i => xs[i]!.2.2.1) (fun i => xs[i]!.2.1.2) (fun i => xs[i]!.2.2.2) (by rw [hl]; exact h0) (by rw [hl]; exact q3) q4 q5 (fun i hi => ?_) (fun i hi => ?_) (fun i hi => ?_) (by rw [Ai,hl])
   ·rw [hl] at hi;rw [hx i hi]; exact hcell i hi
   ·rw [hl] at hi;rw [hx i hi]; exact (hm i hi).1
   ·rw [hl] at hi;rw [hx i hi]; exact (hm i hi).2
  rw [hl] at htr
  refine ⟨_,_,hR (some ⟨b,β,none⟩) c (b :: bl (j4 xs)),rfl,by simp only [Rd],TrE.one (by simp only [TrX]; exact htr) (List.nodup_cons.2 ⟨hd i _ b β hH q1,hT.nd⟩),fun b' hb => ?_⟩
  have hb' : b' = b ∨ b' ∈ bl (j4 xs) := by
   unfold bl at hb;simpa [bl] using hb
  rcases hb' with rfl|hb'
  ·exact .inr ⟨i,_,β,hH,q1⟩
  ·exact .inl hb'
theorem tG {P:Program}{N:Nat}{Q:Exit → AS → dO → Prop}{E:dO}{σ:Type}{c:Code}{ts:List (Nat × AV)}{hs:List (Nat × Option (List AV))}{n:Nat}{z0:Lo}(kl:List Nat) (kt:List (Nat × AV)) (js:List Nat) (kh:List (Nat × Option (List AV)))
  (ot : σ → List (Nat × AV)) (oh : σ → List (Nat × Option (List AV))) (J : σ → dO) (p : σ → Prop) (μ : σ → Nat) (i0 : σ) (h0 : p i0) (hJ : J i0 = E) (hk : mA kl ts = kt) (hj : mZ js hs = kh)
  (h1 : mE ts (ot i0)) (h2 : k7 hs (oh i0))
  (round : ∀ i,p i → dE P N c (Bt (fun s' E' => ∃ j,p j ∧ μ j < μ i ∧ Le s' ⟨ot j ++ kt,oh j ++ kh,n,z0⟩ ∧ J j = E') Q) (J i) ⟨ot i ++ kt,oh i ++ kh,n,z0⟩) :
  dE P N (.loop c) Q E ⟨ts,hs,n,z0⟩ := by
 subst hk hj
 exact ET p (fun i => ⟨ot i ++ mA kl ts,oh i ++ mZ js hs,n,z0⟩) J μ ⟨i0,h0,Le.lit (kY h1 (j8 kl)) (kK h2 (mX js)) (Nat.le_refl _),hJ⟩ round
def zT : SX := (K0,(.slice none 0 0,[]),(.slice none 0 0,[]))
theorem FZ:∀ n:Nat,(List.replicate n ([Value.int .i64 0,.int .i64 0,.int .i64 0,.int .i64 0,.slice none 0 0,.slice none 0 0].map AV.v)).flatten = flat cT (List.replicate n zT)
 | 0 => rfl
 | n + 1 => by
  rw [List.replicate_succ,List.replicate_succ,List.flatten_cons,FZ n]; rfl
theorem KH {xs:List SX}{k:Nat}(x:SX) (hk:k < xs.length):iQ (flat cT xs) (0 + k * 6) [iv x.1.op,iv x.1.x,iv x.1.y,iv x.1.n,.v x.2.1.1,.v x.2.2.1] = flat cT (xs.set k x) := fV hk rfl
def K4 (P : Program) (k : FuncId) (avs : List AV) (E0 E0' : dO) (k1 : Int) : Prop := ∀ (w : World) (vals : List Value),RdV w (fun _ => False) (fun _ => none) avs vals → TrE E0 w →
 Calls P k vals.toArray w (fun e w' => e = .returned (.int .i64 k1) ∧ Fr (fun b => b ∈ bl E0) w w' ∧ TrE E0' w')
theorem mK (E1 E0 E2:dO):bl (E1 ++ (E0 ++ E2)) = bl E1 ++ (bl E0 ++ bl E2) := by rw [kH,kH]
theorem GsT.mark {C:Ctx}{s:AS}{E1 E0 E0' E2:dO}{a:Act}{w w':World}(h:GsT C s (E1 ++ (E0 ++ E2)) a w) (f':Fr (fun b => b ∈ bl E0) w w') (ht:TrE E0' w') (hb0:bl E0' = bl E0):GsT C s (E1 ++ (E0' ++ E2)) a w':=by
 have hT := h.tree
 obtain ⟨wb,hX,f,h1,h2,h3,h0,ι,g,gh⟩ := h
 have hnd := hT.nd
 rw [mK,List.nodup_append,List.nodup_append] at hnd
 obtain ⟨n1,⟨n2,n3,n4⟩,n5⟩ := hnd
 have hBm : ∀ b,b ∈ bl E0 → b ∈ bl (E1 ++ (E0 ++ E2)) := fun b hb => by rw [mK]; exact List.mem_append.2 (.inr (List.mem_append.2 (.inl hb)))
 have hW : ∀ b,(iM C wb _ hX).W0 b → C.W0 b ∨ C.w0.heap.size ≤ b := fun b q => q.1
 have fw : Fr C.W0 C.w0 w := f.trans2 gh.fr hW
 have fw' : Fr C.W0 C.w0 w' := fw.trans2 f' (fun b q => (h1 b (hBm b q)).elim .inr .inl)
 have hblk : ∀ b,b < w.heap.size → b ∉ bl E0 → w'.heap[b]? = w.heap[b]? := fun b hb hn => f'.block b hb hn
 have hT' : TrE (E1 ++ (E0' ++ E2)) w' := by
  refine ⟨fun x hx => ?_,by rw [mK,hb0]; have := hT.nd;rw [mK] at this;exact this⟩
  rcases List.mem_append.1 hx with hx|hx
  ·have hq := hT.t x (List.mem_append.2 (.inl hx))
   exact hq.stay fun b hb => hblk b (hq.lt b hb) fun hn => n5 b (AG hx hb) b (List.mem_append.2 (.inl hn)) rfl
  ·rcases List.mem_append.1 hx with hx | hx
   ·exact ht.t x hx
   ·have hq := hT.t x (List.mem_append.2 (.inr (List.mem_append.2 (.inr hx))))
    exact hq.stay fun b hb => hblk b (hq.lt b hb) fun hn => n4 b hn b (AG hx hb) rfl
 have heq : ∀ b,b ∈ bl (E1 ++ (E0' ++ E2)) ↔ b ∈ bl (E1 ++ (E0 ++ E2)) := fun b => by rw [mK,mK,hb0]
 have hX' : ∀ b, C.X b ∨ b ∈ bl (E1 ++ (E0' ++ E2)) → b < w'.heap.size := by
  rintro b (q|q)
  ·exact Nat.lt_of_lt_of_le (C.xlt b q) fw'.size
  ·exact hT'.lt b q
 have hbad : ∀ b, aE (iM C w' _ hX').X ι (aO s.hs) b → aE (iM C wb _ hX).X ι (aO s.hs) b := by
  rintro b (q|q)
  ·rcases q with q | q
   ·exact .inl (.inl q)
   ·exact .inl (.inr ((heq b).1 q))
  ·exact .inr q
 have hnB : ∀ b,¬ aE (iM C wb _ hX).X ι (aO s.hs) b → b ∉ bl E0 := fun b hb q => hb (.inl (.inr (hBm b q)))
 have car : Carry w (aE (iM C wb _ hX).X ι (aO s.hs)) ι w' (aE (iM C w' _ hX').X ι (aO s.hs)) ι := ⟨fun b o x q1 q2 => ⟨fun q => q1 (hbad b q),by rw [bI (hblk b (eS q2) (hnB b q1))]; exact q2⟩,fun _ _ h => h,f'.bs⟩
 refine ⟨w',hX',fw',fun b hb => h1 b ((heq b).1 hb),fun b hb => h2 b ((heq b).1 hb),hT',h0,ι,TG.carryC (C := iM C wb _ hX) (C' := iM C w' _ hX') rfl g car,⟨fun id cs h => ?_,gh.sep,Fr.refl _ _,gh.ex,gh.fresh⟩⟩
 rcases gh.obj id cs h with q | ⟨b,β,arr,e,q1,q2,q3,q4,q5,q6⟩
 ·exact .inl q
 ·have hlt := cH q2
  have hb' := hblk b hlt fun q => q5 (.inr (hBm b q))
  refine .inr ⟨b,β,arr,e,q1,by rw [hb']; exact q2,q3,RdC.carryB car _ _ _ (fun o y hy => by rw [bI hb']; exact hy) q4,?_,.inl ⟨?_,?_⟩⟩
  ·rintro (q | q)
   ·exact q5 (.inl q)
   ·exact q5 (.inr ((heq b).1 q))
  ·rcases q6 with q6 | q6
   ·exact hW b q6
   ·exact .inr (Nat.le_trans f.size q6)
  ·exact fun q => q5 (.inr ((heq b).1 q))
theorem TrE.sub {E1 E0 E2:dO}{w:World}(h:TrE (E1 ++ (E0 ++ E2)) w):TrE E0 w:=by
 refine ⟨fun t ht => h.t t (List.mem_append.2 (.inr (List.mem_append.2 (.inl ht)))),?_⟩
 have := h.nd
 rw [mK,List.nodup_append,List.nodup_append] at this
 exact this.2.1.1
theorem RdV.freeV {w:World}{bad bad2:Nat → Prop}{ι ι2:Pl}:∀ (avs:List AV) (vs:List Value),jX avs = true → RdV w bad ι avs vs → RdV w bad2 ι2 avs vs
 | [],_,_,k => by simpa only [RdV] using k
 | a :: avs, vs, h, k => by
  simp only [jX,Bool.and_eq_true] at h
  simp only [RdV] at k ⊢
  obtain ⟨x,l',rfl,h1,h2⟩ := k
  exact ⟨x,l',rfl,Rd.free _ _ h.1 h1,RdV.freeV avs l' h.2 h2⟩
section
variable {P : Program} {N : Nat} {Q : Exit → AS → dO → Prop} {all : Array Oper} {rest : List Oper} {ts : List (Nat × AV)} {hs : List (Nat × Option (List AV))} {n : Nat} {z0 : Lo} {d : Nat} {ty : TypeId} {pos : String} {af : Array Edge}
theorem iU {k:FuncId}{args:Array Operand}{tys:Array TypeId}(E1 E0 E2:dO){E E0':dO}{avs:List AV}{k1:Int}[hc:CaT P k] (hE:E = E1 ++ (E0 ++ E2)) (ha:evL (lk ts) args.toList = some avs) (hf:jX avs = true) (h:K4 P k avs E0 E0' k1) (hb0:bl E0' = bl E0) (hN:Nat.blt d N = true)
  (kk : B1 P N all Q (E1 ++ (E0' ++ E2)) rest ⟨(d,iv k1) :: ts,hs,n,z0⟩) : B1 P N all Q E (⟨some d,.call ⟨.value (.func k),args,tys⟩,ty,pos,af,none⟩ :: rest) ⟨ts,hs,n,z0⟩ := by
 subst hE
 intro C a w hCN gT
 refine wpList_plain rfl (fun K hK => ?_)
 simp only [Oper.wp,eT hc.pf,Oper.upon]
 have hT := gT.tree
 have gT' := gT
 obtain ⟨wb,hX,f,h1,h2,h3,h0,ι,g,gh⟩ := gT'
 have hv := gA g ha
 refine (h w _ (RdV.freeV _ _ hf hv) hT.sub).mono ?_
 rintro e w' ⟨rfl,hfr,hT2⟩
 exact hK _ _ (kk C _ _ hCN ((gT.mark hfr hT2 hb0).put (hCN.symm ▸ dD hN) (r := iv k1) (bad := fun _ => False) (ι0 := fun _ => none) rfl (by simp only [Rd])))
end
def TMk (P : Program) (k : FuncId) (t t' : TD) (k0 k1 : Int) : Prop := ∀ (w : World) (y : Value) (B : List Nat),TrX w t y B → B.Nodup →
 Calls P k #[y,.int .i64 k0] w (fun e w' => e = .returned (.int .i64 k1) ∧ Fr (fun b => b ∈ B) w w' ∧ TrX w' t' y B)
theorem TMk.e {P:Program}{k:FuncId}{t t':TD}{k0 k1:Int}(h:TMk P k t t' k0 k1) (y:Value) (B:List Nat):K4 P k [.v y,iv k0] [(t,y,B)] [(t',y,B)] k1:=by
 intro w vals hv hT
 simp only [RdV,Rd] at hv
 obtain ⟨x1,l1,e1,e3,x2,l2,e2,e4,e5⟩ := hv
 rw [e1,e3,e2,e4,e5]
 have hnd : B.Nodup := by simpa [bl] using hT.nd
 refine (h w y B (hT.t _ (List.mem_singleton.2 rfl)) hnd).mono ?_
 rintro e w' ⟨rfl,hfr,hX⟩
 have eb : bl [(t,y,B)] = B := by simp [bl]
 exact ⟨rfl,by rw [eb]; exact hfr,TrE.one hX hnd⟩
theorem DX {w : World} {bad : Nat → Prop} {ι : Pl} {b : Nat} : ∀ (xs : List SX) (o : Nat), (∀ i, i < xs.length → w.cell? ⟨b, o + i * 6, none⟩ = some (.int .i64 xs[i]!.1.op) ∧ w.cell? ⟨b, o + i * 6 + 1, none⟩ = some (.int .i64 xs[i]!.1.x) ∧ w.cell? ⟨b, o + i * 6 + 2, none⟩ = some (.int .i64 xs[i]!.1.y) ∧
   w.cell? ⟨b,o + i * 6 + 3,none⟩ = some (.int .i64 xs[i]!.1.n) ∧ (w.cell? ⟨b,o + i * 6 + 4,none⟩ = some xs[i]!.2.1.1 ∧ xs[i]!.2.1.1.oneCell' = true) ∧ (w.cell? ⟨b,o + i * 6 + 5,none⟩ = some xs[i]!.2.2.1 ∧ xs[i]!.2.2.1.oneCell' = true)) → RdC w bad ι (flat cT xs) b o
 | [],_,_ => by simp only [flat,List.flatMap_nil,RdC]
 | x :: xs, o, h => by
  have e : flat cT (x :: xs) = iv x.1.op :: iv x.1.x :: iv x.1.y :: iv x.1.n :: .v x.2.1.1 :: .v x.2.2.1 :: flat cT xs := rfl
  rw [e]
  simp only [RdC]
  obtain ⟨p0,p1,p2,p3,⟨p4,q4⟩,⟨p5,q5⟩⟩ := h 0 (by simp)
  refine ⟨⟨_,by simpa using p0,rfl,by simp only [Rd]⟩,⟨_,by simpa using p1,rfl,by simp only [Rd]⟩,⟨_,by simpa using p2,rfl,by simp only [Rd]⟩,⟨_,by simpa using p3,rfl,by simp only [Rd]⟩,⟨_,by simpa using p4,by simpa using q4,by simp only [Rd]⟩,⟨_,by simpa using p5,by simpa using q5,by simp only [Rd]⟩,?_⟩
  have := DX (w := w) (bad := bad) (ι := ι) (b := b) xs (o + 6) fun i hi => by
   have := h (i + 1) (by simpa using hi)
   rw [show o + 6 + i * 6 = o + (i + 1) * 6 from by omega]
   simpa using this
  simpa [Nat.add_assoc] using this
theorem J3 {w:World}{bad:Nat → Prop}{ι:Pl}{xs:List SX}{b β c:Nat}{arr:Array Value}{el:TypeId}(h0:0 < xs.length) (q3:xs.length ≤ c) (q4:w.heap[b]? = some (.cells arr el (0,0))) (q5:β + c * 6 ≤ arr.size) (q6:RdC w bad ι (flat cT xs) b β) (hT:TrE (j4 xs) w) :
  TrH w (xs.map (·.1)) (.slice (some ⟨b,β,none⟩) xs.length c) (b :: bl (j4 xs)) := by
 have hl : (xs.map (·.1)).length = xs.length := by simp
 have hx : ∀ i,i < xs.length → (xs.map (·.1))[i]! = xs[i]!.1 := fun i hi => by rw [aW _ _ (by simpa using hi),aW _ _ hi,List.getElem_map]
 have hm : ∀ i, i < xs.length → TrH w xs[i]!.1.th xs[i]!.2.1.1 xs[i]!.2.1.2 ∧ TrH w xs[i]!.1.el xs[i]!.2.2.1 xs[i]!.2.2.2 := fun i hi => by
  have hin := aZ xs i hi
  have h4 := hT.t (.stms xs[i]!.1.th,xs[i]!.2.1.1,xs[i]!.2.1.2) (List.mem_flatMap.2 ⟨_,hin,by simp⟩)
  have h5 := hT.t (.stms xs[i]!.1.el,xs[i]!.2.2.1,xs[i]!.2.2.2) (List.mem_flatMap.2 ⟨_,hin,by simp⟩)
  simp only [TrX] at h4 h5
  exact ⟨h4,h5⟩
 have hcell := uJ xs β q6
 have htr : TrH w (xs.map (·.1)) (.slice (some ⟨b, β, none⟩) (xs.map (·.1)).length c) (b :: bl (j4 xs)) := by
  refine .cons (fun i => xs[i]!.2.1.1) (fun i => xs[i]!.2.2.1) (fun i => xs[i]!.2.1.2) (fun i => xs[i]!.2.2.2) (by rw [hl]; exact h0) (by rw [hl]; exact q3) q4 q5 (fun i hi => ?_) (fun i hi => ?_) (fun i hi => ?_) (by rw [Ai,hl])
  ·rw [hl] at hi;rw [hx i hi]; exact hcell i hi
  ·rw [hl] at hi;rw [hx i hi]; exact (hm i hi).1
  ·rw [hl] at hi;rw [hx i hi]; exact (hm i hi).2
 rwa [hl] at htr
theorem TrH.open {w:World}{l:List Stmt}{y:Value}{B:List Nat}(h:TrH w l y B) (hB:B.Nodup) (hn:0 < l.length):∃ (xs:List SX) (b β c:Nat) (arr:Array Value) (el:TypeId),xs.map (·.1) = l ∧ xs.length = l.length ∧ y = .slice (some ⟨b,β,none⟩) l.length c ∧ l.length ≤ c ∧ w.heap[b]? = some (.cells arr el (0,0)) ∧ β + c * 6 ≤ arr.size ∧
  B = b :: bl (j4 xs) ∧ TrE (j4 xs) w ∧ ∀ (bad : Nat → Prop) (ι : Pl),RdC w bad ι (flat cT xs) b β := by
 cases h with
 | nil => simp at hn
 | @cons _ b o c arr ty _ v4 v5 B4 B5 h1 h2 h3 h4 h5 h6 h7 h8 =>
  have hxl : ((List.range l.length).map fun i => ((l[i]!,(v4 i,B4 i),(v5 i,B5 i)) : SX)).length = l.length := by simp
  have hxg : ∀ i,i < l.length → ((List.range l.length).map fun i => ((l[i]!,(v4 i,B4 i),(v5 i,B5 i)) : SX))[i]! = (l[i]!,(v4 i,B4 i),(v5 i,B5 i)) := fun i hi => by rw [aW _ _ (by simpa using hi)]; simp
  have hbl : bl (j4 ((List.range l.length).map fun i => ((l[i]!, (v4 i, B4 i), (v5 i, B5 i)) : SX))) = (List.range l.length).flatMap (fun i => B4 i ++ B5 i) := by
   rw [Ai,hxl]
   have : ∀ (ns : List Nat), (∀ i ∈ ns, i < l.length) → ns.flatMap (fun i => ((List.range l.length).map fun i => ((l[i]!, (v4 i, B4 i), (v5 i, B5 i)) : SX))[i]!.2.1.2 ++ ((List.range l.length).map fun i => ((l[i]!, (v4 i, B4 i), (v5 i, B5 i)) : SX))[i]!.2.2.2) = ns.flatMap (fun i => B4 i ++ B5 i) := by
    intro ns
    induction ns with
    | nil => intro _; rfl
    | cons n ns ih =>
     intro hn
     rw [List.flatMap_cons,List.flatMap_cons,ih fun i hi => hn i (List.mem_cons_of_mem _ hi),hxg n (hn n (List.mem_cons_self))]
   exact this _ fun i hi => List.mem_range.1 hi
  refine ⟨(List.range l.length).map fun i => (l[i]!,(v4 i,B4 i),(v5 i,B5 i)),b,o,c,arr,ty,?_,hxl,rfl,h2,h3,h4,by rw [h8,hbl],⟨fun t ht => ?_,?_⟩,fun bad ι => DX _ _ fun i hi => ?_⟩
  ·refine List.ext_getElem (by simp) fun i a1 a2 => ?_
   rw [List.getElem_map,List.getElem_map,List.getElem_range]
   exact aW _ _ a2
  ·obtain ⟨x, hx, ht⟩ := List.mem_flatMap.1 ht
   obtain ⟨i,hi,rfl⟩ := List.mem_map.1 hx
   rw [List.mem_range] at hi
   simp only [List.mem_cons,List.not_mem_nil,or_false] at ht
   rcases ht with rfl|rfl
   ·simp only [TrX]; exact h6 i hi
   ·simp only [TrX]; exact h7 i hi
  ·rw [hbl]; rw [h8] at hB;exact (List.nodup_cons.1 hB).2
  ·rw [hxl] at hi
   rw [hxg i hi]
   obtain ⟨c0,c1,c2,c3,c4,c5⟩ := h5 i hi
   exact ⟨c0,c1,c2,c3,⟨c4,(h6 i hi).one⟩,⟨c5,(h7 i hi).one⟩⟩
theorem sR {P:Program}{k:FuncId}{fn:Func}{c:Code}{k0 k1:Int}{n e:Nat}{cs:List AV}{E:dO}{w:World}{b β cc:Nat}{arr:Array Value}{el:TypeId}{R:World → Prop}(hf:P.funcs[k]? = some fn) (hb:fn.body = some c) (hN:2 ≤ fn.ntmps)
  (x5 : w.heap[b]? = some (.cells arr el (0,0))) (x6 : β + cc * e ≤ arr.size) (x4 : n ≤ cc) (hcs : cs.length = n * e) (x9 : ∀ (bad : Nat → Prop) (ι : Pl),RdC w bad ι cs b β) (x8 : TrE E w) (hnb : b ∉ bl E) (Post : AS → dO → Prop)
  (h : dE P fn.ntmps c (fun x s E' => (x = .ret ∨ x = .normal) ∧ jG P (lk s.ts) (aO s.hs) fn.results.toList = some [iv k1] ∧ Post s E') E ⟨dB 0 [.own 0 0 n e,iv k0],[(0,some cs)],1,⟨1,aT⟩⟩)
  (fin : ∀ (s : AS) (E' : dO) (C : Ctx) (ι : Pl) (F : Nat → Prop) (w' : World),Post s E' → HG C ι F (aO s.hs) w' → ι 0 = some (some (b,β)) → TrE E' w' → n6 w b ≤ n6 w' b → R w') :
  Calls P k #[.slice (some ⟨b,β,none⟩) n cc,.int .i64 k0] w (fun e w' => e = .returned (.int .i64 k1) ∧ Fr (fun q => q ∈ b :: bl E) w w' ∧ R w') := by
 refine calls_of_wp hf hb ?_
 let C : Ctx := { N := fn.ntmps,w0 := w,W0 := fun q => q ∈ b :: bl E,X := fun _ => False,ι0 := fun id => if id = 0 then some (some (b,β)) else none,xlt := fun _ q => q.elim }
 have hX : ∀ q,C.X q ∨ q ∈ bl E → q < w.heap.size := fun q hq => hq.elim (fun q => q.elim) (x8.lt q)
 have hι : ∀ id c', aO [(0, some cs)] id = some c' → id = 0 ∧ c' = cs := fun id c' hq => by
  rw [bU] at hq
  split at hq
  ·rename_i e;cases hq;exact ⟨e,rfl⟩
  ·simp [aO] at hq
 have gh : HG (iM C w E hX) C.ι0 (Fn 1 ⟨1, aT⟩) (aO [(0, some cs)]) w := by
  refine ⟨fun id c' hq => ?_,fun id id' c1 c2 q β1 β2 h1 h2 _ _ => by rw [(hι _ _ h1).1,(hι _ _ h2).1],Fr.refl _ _,fun _ _ h => h,fun id hid => ?_⟩
  ·obtain ⟨rfl, rfl⟩ := hι id c' hq
   refine .inr ⟨b,β,arr,el,rfl,x5,?_,x9 _ _,?_,.inl ⟨.inl (List.mem_cons_self),hnb⟩⟩
   ·rw [hcs]; have := Nat.mul_le_mul_right e x4;omega
   ·rintro (q | q)
    ·exact q
    ·exact hnb q
  ·have : 1 ≤ id := hid.1
   show (if id = 0 then _ else _) = none
   rw [if_neg (by omega)]
 have hv : RdV w (aE (iM C w E hX).X C.ι0 (aO [(0, some cs)])) C.ι0 [.own 0 0 n e, iv k0] [.slice (some ⟨b, β, none⟩) n cc, .int .i64 k0] := by
  simp only [RdV]
  refine ⟨_,_,rfl,?_,_,_,rfl,by simp only [Rd],rfl⟩
  simp only [Rd]
  exact .inr ⟨b,β,cc,rfl,rfl,x4,by unfold n6;rw [x5]; simpa using x6⟩
 have gt : TG (iM C w E hX) C.ι0 (lk (dB 0 [.own 0 0 n e, iv k0])) (aO [(0, some cs)]) { tmps := [Value.slice (some ⟨b, β, none⟩) n cc, .int .i64 k0].toArray ++ Array.replicate (fn.ntmps - [Value.slice (some ⟨b, β, none⟩) n cc, .int .i64 k0].toArray.size) undef, defers := [] } w := by
  refine ⟨rfl,by simp [iM,C]; omega,fun t av ht => ?_⟩
  obtain ⟨y,_,h1,h2⟩ := jE hv ht
  refine ⟨y,?_,h2⟩
  have hlt : t < [Value.slice (some ⟨b, β, none⟩) n cc, .int .i64 k0].length := by
   rcases Nat.lt_or_ge t [Value.slice (some ⟨b,β,none⟩) n cc,.int .i64 k0].length with q|q
   ·exact q
   ·rw [List.getElem?_eq_none (by simpa using q)] at h1;cases h1
  rw [Array.getElem?_append_left (by simpa using hlt)]
  simpa using h1
 have gT : GsT C ⟨dB 0 [.own 0 0 n e, iv k0], [(0, some cs)], 1, ⟨1, aT⟩⟩ E { tmps := [Value.slice (some ⟨b, β, none⟩) n cc, .int .i64 k0].toArray ++ Array.replicate (fn.ntmps - [Value.slice (some ⟨b, β, none⟩) n cc, .int .i64 k0].toArray.size) undef, defers := [] } w :=
  ⟨w,hX,Fr.refl _ _,fun q hq => .inr (List.mem_cons_of_mem _ hq),fun _ _ q => q,x8,fun id hid => .inr (if_neg (by have : 1 ≤ id := hid;omega)),C.ι0,gt,gh⟩
 refine wp_mono (h C _ w rfl gT) ?_
 rintro x a' w' ⟨s1,E',⟨he,hres,hP⟩,gT'⟩
 have hT' := gT'.tree
 have gD := gT'.drop
 have hfr : Fr (fun q => q ∈ b :: bl E) w w' := by obtain ⟨_,_,_,gh'⟩ := gD;exact gh'.fr
 obtain ⟨wb,hX',f,p1,p2,p3,h0',ι,g1,g2⟩ := gT'
 obtain ⟨ys,q1,q2⟩ := lE (P := P) g1 g2 hres
 have hys : ys = [.int .i64 k1] := by
  simp only [RdV,Rd] at q2
  obtain ⟨_,_,rfl,rfl,rfl⟩ := q2
  rfl
 subst hys
 have hres' : (results fn a'.tmps).run P w' = .ok (.int .i64 k1) w' := by
  have hr1 : results fn a'.tmps = (do let vs ← fn.results.mapM (rX a'); pure (if h : vs.size = 1 then vs[0] else .tuple vs)) := by
   unfold results
   congr 1
  rw [hr1,Array.mapM_eq_mapM_toList,Sem.run_bind,Sem.run_map,q1]
  simp only [Result.andThen_ok,Sem.run_pure]
  rfl
 have hR := fin s1 E' _ ι _ w' hP g2 (g2.ex 0 (some (b,β)) rfl) hT' (hfr.bs b)
 rcases he with rfl|rfl
 ·exact ⟨g1.df,_,hres',rfl,hfr,hR⟩
 ·exact ⟨g1.df,_,hres',rfl,hfr,hR⟩
theorem wH {P:Program}{k:FuncId}{k0 k1:Int}{av:AV}{w:World}{y:Value}(hp:PC P k [av,iv k0] (fun r => r = iv k1)) (hy:Rd w (fun _ => False) (fun _ => none) av y) :
  Calls P k #[y,.int .i64 k0] w (fun e w' => e = .returned (.int .i64 k1) ∧ Fr (fun _ => False) w w') := by
 have hT := eF hp rfl
 refine (hT w (fun _ => False) [y,.int .i64 k0] (fun _ q => q.elim) (by simp only [RdV]; exact ⟨_,_,rfl,hy,_,_,rfl,by simp only [Rd],rfl⟩)).mono ?_
 rintro e w' ⟨v,r,E,rfl,⟨rfl,rfl⟩,_,hr,hfr,_,_⟩
 simp only [Rd] at hr
 subst hr
 exact ⟨rfl,hfr⟩
theorem Fr.wide {W:Nat → Prop}{w w':World}(h:Fr (fun _ => False) w w'):Fr W w w' := ⟨h.os,h.tape,h.output,h.size,fun k hk _ => h.block k hk (fun q => q),h.bs⟩
theorem D4 {P:Program}{k:FuncId}{fn:Func}{c:Code}{l l':List Int}{k0 k1:Int}(hf:P.funcs[k]? = some fn) (hb:fn.body = some c) (hN:2 ≤ fn.ntmps) (hl:l'.length = l.length) (h0:l = [] → PC P k [sl cI [],iv k0] (fun r => r = iv k1))
  (h : 0 < l.length → AW P fn.ntmps c (fun x s => (x = .ret ∨ x = .normal) ∧ jG P (lk s.ts) (aO s.hs) fn.results.toList = some [iv k1] ∧ aO s.hs 0 = some (flat cI l')) ⟨dB 0 [.own 0 0 l.length 1,iv k0],[(0,some (flat cI l))],1,⟨1,aT⟩⟩) : TMk P k (.ints l) (.ints l') k0 k1 := by
 intro w y B ht hB
 simp only [TrX] at ht
 cases ht with
 | @nil a cc =>
  have e0 : l' = [] := List.eq_nil_of_length_eq_zero hl
  subst e0
  refine (wH (h0 rfl) (show Rd w _ _ (.imm 0 _) (.slice a 0 cc) by simp only [Rd]; exact ⟨a,cc,rfl,.inl trivial⟩)).mono ?_
  rintro e w' ⟨rfl,hfr⟩
  exact ⟨rfl,hfr.wide,by simp only [TrX]; exact .nil⟩
 | @cons _ b β cc arr el x1 x4 x5 x6 x7 =>
  have h' := h x1
  refine (sR (E := []) (n := l.length) (e := 1) (cs := flat cI l) (R := fun w' => TrX w' (.ints l') (.slice (some ⟨b, β, none⟩) l.length cc) [b]) hf hb hN x5 (by omega) x4 (aK cI (e := 1) l) (fun bad ι => u5 l β x7) ⟨fun t ht => (by cases ht), List.nodup_nil⟩ (fun q => by cases q)
   (fun s E' => E' = [] ∧ aO s.hs 0 = some (flat cI l')) (awt_lift fun C a w hN g => wp_mono (h' C a w hN g) fun e a' w' ⟨s',⟨q1,q2,q3⟩,q4⟩ => ⟨s',⟨q1,q2,rfl,q3⟩,q4⟩) ?_).mono ?_
  ·rintro s E' C ι F w' ⟨rfl, r1⟩ g2 hι0 _ hbs
   rcases g2.obj 0 _ r1 with ⟨q,_⟩ | ⟨b',β',arr',el',q,q4,q5,q6,q7,q8⟩
   ·rw [q] at hι0;cases hι0
   ·rw [q] at hι0; cases hι0
    have hsz : β + cc ≤ arr'.size := by
     unfold n6 at hbs
     rw [x5,q4] at hbs
     exact Nat.le_trans x6 hbs
    simp only [TrX]
    rw [← hl]
    exact .cons (by omega) (by omega) q4 hsz (mN l' β q6)
  ·rintro e w' ⟨rfl, hfr, hR⟩
   exact ⟨rfl,hfr,hR⟩
theorem FT {P:Program}{k:FuncId}{fn:Func}{c:Code}{l l':List Stmt}{k0 k1:Int}(hf:P.funcs[k]? = some fn) (hb:fn.body = some c) (hN:2 ≤ fn.ntmps) (h0:l = [] → l' = [] ∧ PC P k [sl aR [],iv k0] (fun r => r = iv k1))
  (h : 0 < l.length → ∀ xs : List SX, xs.map (·.1) = l → dE P fn.ntmps c (fun x s E' => (x = .ret ∨ x = .normal) ∧ jG P (lk s.ts) (aO s.hs) fn.results.toList = some [iv k1] ∧ ∃ xs', aO s.hs 0 = some (flat cT xs') ∧ E' = j4 xs' ∧ xs'.map (·.1) = l' ∧ xs'.map (·.2) = xs.map (·.2)) (j4 xs)
   ⟨dB 0 [.own 0 0 l.length 6,iv k0],[(0,some (flat cT xs))],1,⟨1,aT⟩⟩) : TMk P k (.stms l) (.stms l') k0 k1 := by
 intro w y B ht hB
 simp only [TrX] at ht
 rcases Nat.eq_zero_or_pos l.length with hl|hl
 ·have hl0 : l = [] := List.eq_nil_of_length_eq_zero hl
  obtain ⟨e0,hp⟩ := h0 hl0
  subst hl0 e0
  cases ht with
  | @nil a cc =>
   refine (wH hp (show Rd w _ _ (.imm 0 _) (.slice a 0 cc) by simp only [Rd]; exact ⟨a,cc,rfl,.inl trivial⟩)).mono ?_
   rintro e w' ⟨rfl,hfr⟩
   exact ⟨rfl,hfr.wide,by simp only [TrX]; exact .nil⟩
  | cons _ _ _ _ h1 => simp at h1
 ·obtain ⟨xs, b, β, cc, arr, el, x1, x2, rfl, x4, x5, x6, rfl, x8, x9⟩ := ht.open hB hl
  have hnb := List.nodup_cons.1 hB
  refine (sR (E := j4 xs) (n := l.length) (e := 6) (cs := flat cT xs) (R := fun w' => TrX w' (.stms l') (.slice (some ⟨b,β,none⟩) l.length cc) (b :: bl (j4 xs))) hf hb hN x5 x6 x4 (by rw [aK cT (e := 6),x2]) x9 x8 hnb.1 _ (h hl xs x1) ?_)
  rintro s E' C ι F w' ⟨xs',r1,rfl,r3,r4⟩ g2 hι0 hT' hbs
  have r5 : xs'.length = xs.length := by have := congrArg List.length r4;simpa using this
  have r6 : bl (j4 xs') = bl (j4 xs) := by
   have : ∀ zs : List SX, bl (j4 zs) = (zs.map (·.2)).flatMap fun x => x.1.2 ++ x.2.2 := fun zs => by
    unfold bl j4
    rw [List.flatMap_assoc,List.flatMap_map]
    congr 1
    funext x
    simp
   rw [this,this,r4]
  rcases g2.obj 0 _ r1 with ⟨q,_⟩ | ⟨b',β',arr',el',q,q4,q5,q6,q7,q8⟩
  ·rw [q] at hι0;cases hι0
  ·rw [q] at hι0; cases hι0
   have hsz : β + cc * 6 ≤ arr'.size := by
    unfold n6 at hbs
    rw [x5,q4] at hbs
    exact Nat.le_trans x6 hbs
   have := J3 (c := cc) (by rw [r5,x2]; exact hl) (by rw [r5,x2]; exact x4) q4 hsz q6 hT'
   rw [r3,r5,x2,r6] at this
   simp only [TrX]
   exact this
theorem GsT.drew {C:Ctx}{s:AS}{E:dO}{a:Act}{w:World}(h:GsT C s E a w):GsT C s E a { w with drawn := w.drawn + 1 }:=by
 obtain ⟨wb,hX,f,h1,h2,h3,h0,ι,g,gh⟩ := h
 obtain ⟨g1,c1⟩ := lL gh
 exact ⟨wb,hX,f,h1,h2,h3,h0,ι,g.carry c1,g1⟩
def zL (P : Program) (N : Nat) (all : Array Oper) (Q : Exit → AS → dO → Prop) (E : dO) (fuel : Nat) (listed : Array Bool) (s : AS) : Prop :=
 ∀ (C : Ctx) (a : Act) (w : World),C.N = N → GsT C s E a w → wpAny P .any all (fun e a' w' => ∃ s' E',Q e s' E' ∧ GsT C s' E' a' w') fuel listed a w
section
variable {P : Program} {N : Nat} {Q : Exit → AS → dO → Prop} {E : dO} {all : Array Oper} {s : AS} {fuel : Nat} {listed : Array Bool}
theorem wX {is:List Nat}(hr:Region.ready .any all listed = is) (hne:is ≠ []) (h:∀ i ∈ is,∃ o,all[i]? = some o ∧ B1 P N all (fun e s' E' => e = .normal ∧ zL P N all Q E' fuel (listed.setIfInBounds i true) s') E [o] s):zL P N all Q E (fuel + 1) listed s:=by
 intro C a w hN g
 refine ⟨fun h0 => absurd (hr.symm.trans h0) hne,fun i hi => ?_⟩
 rw [hr] at hi
 obtain ⟨o,ho,hw⟩ := h i hi
 have hq := hw C a w hN g
 have hL : ¬ LetsOut (fun e a' w' => ∃ s' E',(e = Exit.normal ∧ zL P N all Q E' fuel (listed.setIfInBounds i true) s') ∧ GsT C s' E' a' w') := fun ⟨a,w,s',E',⟨q,_⟩,_⟩ => by cases q
 have hk : ∀ a w, wpList P all (fun e a' w' => ∃ s' E', (e = Exit.normal ∧ zL P N all Q E' fuel (listed.setIfInBounds i true) s') ∧ GsT C s' E' a' w') [] a w → wpAny P .any all (fun e a' w' => ∃ s' E', Q e s' E' ∧ GsT C s' E' a' w') fuel (listed.setIfInBounds i true) a w := by
  intro a w hk
  unfold wpList at hk
  obtain ⟨s',E',⟨_,hA⟩,hg⟩ := hk
  exact hA C a w hN hg
 unfold wpOp
 rw [ho]
 dsimp only
 unfold wpList at hq
 split
 ·rename_i hwn
  rw [if_pos hwn] at hq
  rcases hq with hq | ⟨_,hq⟩
  ·exact .inl (D5 hk (fun e a w ⟨s',E',⟨he,_⟩,_⟩ => he) hq)
  ·exact absurd hq hL
 ·rename_i hwn
  rw [if_neg hwn] at hq
  exact hk _ _ hq
theorem z6 {i:Nat}{o:Oper}(hr:Region.ready .any all listed = [i]) (ho:all[i]? = some o) (h:B1 P N all (fun e s' E' => e = .normal ∧ zL P N all Q E' fuel (listed.setIfInBounds i true) s') E [o] s):zL P N all Q E (fuel + 1) listed s :=
 wX hr (by simp) fun j hj => by rw [List.mem_singleton] at hj;subst hj;exact ⟨o,ho,h⟩
theorem Lp {i i':Nat}{o o':Oper}(hr:Region.ready .any all listed = [i,i']) (ho:all[i]? = some o) (ho':all[i']? = some o') (h:B1 P N all (fun e s' E' => e = .normal ∧ zL P N all Q E' fuel (listed.setIfInBounds i true) s') E [o] s)
  (h' : B1 P N all (fun e s' E' => e = .normal ∧ zL P N all Q E' fuel (listed.setIfInBounds i' true) s') E [o'] s) : zL P N all Q E (fuel + 1) listed s :=
 wX hr (by simp) fun j hj => by
  simp only [List.mem_cons,List.not_mem_nil,or_false] at hj
  rcases hj with rfl|rfl
  ·exact ⟨o,ho,h⟩
  ·exact ⟨o',ho',h'⟩
theorem o6 (h:Q .normal s E) (hr:Region.ready .any all listed = []):zL P N all Q E fuel listed s:=by
 intro C a w hN g
 cases fuel with
 | zero => exact ⟨hr,s,E,h,g⟩
 | succ n => exact ⟨fun _ => ⟨s,E,h,g⟩,fun i hi => by rw [hr] at hi;cases hi⟩
theorem BX {id:Nat}{l:List Oper}(hm:P.follows .mixedOrders = true) (h:zL P N l.toArray Q E l.length (Array.replicate l.length false) s):dE P N (.region id l.toArray true) Q E s:=by
 intro C a w hN g
 refine wp_region_any hm ?_
 have := h C a _ hN g.drew
 simpa using this
end
theorem C3 {P:Program}{N:Nat}{Q:Exit → AS → dO → Prop}{E:dO}{all:Array Oper}{rest:List Oper}{s:AS}{ty:TypeId}{pos:String}{af:Array Edge}{dst:Option Tmp}{op:Op}{j e:Nat}{want b:Bool}(hj:(all[j]?).bind (·.dst) = some e) (hb:lk s.ts e = some (.v (.bool b))) (hw:b = want) (h:B1 P N all Q E (⟨dst,op,ty,pos,af,none⟩ :: rest) s) :
  B1 P N all Q E (⟨dst,op,ty,pos,af,some (j,want)⟩ :: rest) s := by
 subst hw
 intro C a w hN g
 have h' := h C a w hN g
 obtain ⟨wb,hX,f,h1,h2,h3,h0,ι,g,gh⟩ := g
 have hyl : yielded all a.tmps j = some b := by
  obtain ⟨y,hy,hr⟩ := g.tm e _ hb
  simp only [Rd] at hr
  subst hr
  simp [yielded,hj,hy]
 unfold wpList at h' ⊢
 simp only [Region.wanted,hyl,if_true,beq_self_eq_true] at h' ⊢
 exact h'
theorem A4 {P:Program}{k:FuncId}{fn:Func}{c:Code}{avs:List AV}{E0 E0':dO}{k1:Int}(hf:P.funcs[k]? = some fn) (hb:fn.body = some c) (hN:avs.length ≤ fn.ntmps)
  (h : dE P fn.ntmps c (fun x s E => (x = .ret ∨ x = .normal) ∧ jG P (lk s.ts) (aO s.hs) fn.results.toList = some [iv k1] ∧ E = E0') E0 ⟨dB 0 avs,[],0,⟨0,aT⟩⟩) (hfr : jX avs = true) : K4 P k avs E0 E0' k1 := by
 intro w vals hv0 x8
 refine calls_of_wp hf hb ?_
 let C : Ctx := { N := fn.ntmps,w0 := w,W0 := fun q => q ∈ bl E0,X := fun _ => False,ι0 := fun _ => none,xlt := fun _ q => q.elim }
 have hX : ∀ q,C.X q ∨ q ∈ bl E0 → q < w.heap.size := fun q hq => hq.elim (fun q => q.elim) (x8.lt q)
 have hlen := RdV.length hv0
 have hv : RdV w (aE (iM C w E0 hX).X (fun _ => none) (aO [])) (fun _ => none) avs vals := RdV.freeV _ _ hfr hv0
 have gh : HG (iM C w E0 hX) (fun _ => none) (Fn 0 ⟨0, aT⟩) (aO []) w :=
  ⟨fun id cs h => by simp [aO] at h,fun id id' cs cs' b β β' h => by simp [aO] at h,Fr.refl _ _,fun _ _ h => h,fun _ _ => rfl⟩
 have gt : TG (iM C w E0 hX) (fun _ => none) (lk (dB 0 avs)) (aO []) { tmps := vals.toArray ++ Array.replicate (fn.ntmps - vals.toArray.size) undef, defers := [] } w := by
  refine ⟨rfl,by simp [iM,C,hlen]; omega,fun t av ht => ?_⟩
  obtain ⟨y,_,h1,h2⟩ := jE hv ht
  refine ⟨y,?_,h2⟩
  have hlt : t < vals.length := by
   rcases Nat.lt_or_ge t vals.length with q|q
   ·exact q
   ·rw [List.getElem?_eq_none (by simpa using q)] at h1;cases h1
  rw [Array.getElem?_append_left (by simpa using hlt)]
  simpa using h1
 have gT : GsT C ⟨dB 0 avs, [], 0, ⟨0, aT⟩⟩ E0 { tmps := vals.toArray ++ Array.replicate (fn.ntmps - vals.toArray.size) undef, defers := [] } w :=
  ⟨w,hX,Fr.refl _ _,fun q hq => .inr hq,fun _ _ q => q,x8,fun id hid => .inr rfl,fun _ => none,gt,gh⟩
 refine wp_mono (h C _ w rfl gT) ?_
 rintro x a' w' ⟨s1,E',⟨he,hres,rfl⟩,gT'⟩
 have hT' := gT'.tree
 have gD := gT'.drop
 have hfr : Fr (fun q => q ∈ bl E0) w w' := by obtain ⟨_,_,_,gh'⟩ := gD;exact gh'.fr
 obtain ⟨wb,hX',f,p1,p2,p3,h0',ι,g1,g2⟩ := gT'
 obtain ⟨ys,q1,q2⟩ := lE (P := P) g1 g2 hres
 have hys : ys = [.int .i64 k1] := by
  simp only [RdV,Rd] at q2
  obtain ⟨_,_,rfl,rfl,rfl⟩ := q2
  rfl
 subst hys
 have hres' : (results fn a'.tmps).run P w' = .ok (.int .i64 k1) w' := by
  have hr1 : results fn a'.tmps = (do let vs ← fn.results.mapM (rX a'); pure (if h : vs.size = 1 then vs[0] else .tuple vs)) := by
   unfold results
   congr 1
  rw [hr1,Array.mapM_eq_mapM_toList,Sem.run_bind,Sem.run_map,q1]
  simp only [Result.andThen_ok,Sem.run_pure]
  rfl
 rcases he with rfl|rfl
 ·exact ⟨g1.df,_,hres',rfl,hfr,hT'⟩
 ·exact ⟨g1.df,_,hres',rfl,hfr,hT'⟩
theorem HJ {P:Program}{res:Array ResultVar}{R:AV → dO → Prop}{s:AS}{E:dO}{l:List AV}(hr:jG P (lk s.ts) (aO s.hs) res.toList = some l){r:AV}(e:aN l = r) (hf:r.free = true) (hR:R r [(.ints [],.slice none 0 0,[])]):AY P res R .ret s E:=by
 subst e
 exact ⟨.inl rfl,l,hr,fun C ι F w y g hy hT hd => ⟨_,[(.ints [],.slice none 0 0,[])],hR,hf,Rd.free _ _ hf hy,TrE.one (show TrI w [] _ _ from .nil) List.nodup_nil,fun b hb => by simp [bl] at hb⟩⟩
theorem Hp {C:Ctx}{ι:Pl}{F:Nat → Prop}{H:Nat → Option (List AV)}{w:World}(g:HG C ι F H w){i n:Nat}{L:List Int}{y:Value}(hy:Rd w (aE C.X ι H) ι (.own i 0 n 1) y) (hH:H i = some (flat cI L)) (hn:n = L.length) :
  ∃ a c B,y = .slice a L.length c ∧ TrI w L y B ∧ B.Nodup ∧ ∀ b ∈ B,∃ β,ι i = some (some (b,β)) := by
 subst hn
 rcases Nat.eq_zero_or_pos L.length with h0|h0
 ·have hL : L = [] := List.eq_nil_of_length_eq_zero h0
  subst hL
  obtain ⟨a,c,rfl⟩ := uZ hy
  exact ⟨_,_,[],rfl,.nil,List.nodup_nil,fun b hb => by cases hb⟩
 ·obtain ⟨b, β, c, arr, el, q1, rfl, q3, q4, q5, q6⟩ := AK g hy hH h0
  refine ⟨_,_,[b],rfl,.cons h0 q3 q4 (by omega) (mN L β q6),by simp,fun b' hb => ?_⟩
  rw [List.mem_singleton] at hb;subst hb;exact ⟨β,q1⟩
theorem rP {P:Program}{res:Array ResultVar}{R:AV → dO → Prop}{s:AS}{E:dO}{l:List AV}(hr:jG P (lk s.ts) (aO s.hs) res.toList = some l){i n:Nat}{L:List Int}{x:AV}(e:aN l = .tup [.own i 0 n 1,x]) (hx:x.free = true) (hH:aO s.hs i = some (flat cI L)) (hn:n = L.length)
  (hR : ∀ a c B,R (.tup [.v (.slice a L.length c),x]) [(.ints L,.slice a L.length c,B)]) : AY P res R .ret s E := by
 refine ⟨.inl rfl,l,hr,fun C ι F w y g hy hT hd => ?_⟩
 rw [e] at hy
 simp only [Rd,RdV] at hy
 obtain ⟨ys,rfl,y0,l0,rfl,h0,y1,l1,rfl,h1,rfl⟩ := hy
 obtain ⟨a,c,B,rfl,h2,h3,h4⟩ := Hp g (by simpa only [Rd] using h0) hH hn
 have hx' := Rd.free (bad2 := fun _ => False) (ι2 := fun _ => none) _ _ hx h1
 refine ⟨_,_,hR a c B,by simp [AV.free,jX,hx],?_,TrE.one (by simp only [TrX]; exact h2) h3,fun b hb => ?_⟩
 ·simp only [Rd, RdV]
  exact ⟨_,rfl,_,_,rfl,rfl,_,_,rfl,hx',rfl⟩
 ·obtain ⟨β, q⟩ := h4 b (by simpa [bl] using hb)
  exact .inr ⟨i,_,β,hH,q⟩
theorem GsT.less {C:Ctx}{s:AS}{E E2:dO}{a:Act}{w:World}(h:GsT C s E a w) (hT2:∀ w,TrE E w → TrE E2 w) (hin:∀ b,b ∈ bl E2 → b ∈ bl E):GsT C s E2 a w:=by
 have hT := h.tree
 obtain ⟨wb,hX,f,h1,h2,h3,h0,ι,g,gh⟩ := h
 have hW : ∀ b,(iM C wb _ hX).W0 b → C.W0 b ∨ C.w0.heap.size ≤ b := fun b q => q.1
 have fw : Fr C.W0 C.w0 w := f.trans2 gh.fr hW
 have hT' : TrE E2 w := hT2 w hT
 have hX' : ∀ b, C.X b ∨ b ∈ bl E2 → b < w.heap.size := by
  rintro b (q|q)
  ·exact Nat.lt_of_lt_of_le (C.xlt b q) fw.size
  ·exact hT'.lt b q
 have hbad : ∀ b, aE (iM C w E2 hX').X ι (aO s.hs) b → aE (iM C wb _ hX).X ι (aO s.hs) b := by
  rintro b (q|q)
  ·rcases q with q | q
   ·exact .inl (.inl q)
   ·exact .inl (.inr (hin b q))
  ·exact .inr q
 have car : Carry w (aE (iM C wb _ hX).X ι (aO s.hs)) ι w (aE (iM C w E2 hX').X ι (aO s.hs)) ι := ⟨fun b o x q1 q2 => ⟨fun q => q1 (hbad b q),q2⟩,fun _ _ h => h,fun _ => Nat.le_refl _⟩
 refine ⟨w,hX',fw,fun b hb => h1 b (hin b hb),fun b hb => h2 b (hin b hb),hT',h0,ι,TG.carryC (C := iM C wb _ hX) (C' := iM C w E2 hX') rfl g car,⟨fun id cs h => ?_,gh.sep,Fr.refl _ _,gh.ex,gh.fresh⟩⟩
 rcases gh.obj id cs h with q | ⟨b,β,arr,e,q1,q2,q3,q4,q5,q6⟩
 ·exact .inl q
 ·refine .inr ⟨b, β, arr, e, q1, q2, q3, RdC.carryB car _ _ _ (fun o y hy => hy) q4, ?_, .inl ⟨?_, ?_⟩⟩
  ·rintro (q | q)
   ·exact q5 (.inl q)
   ·exact q5 (.inr (hin b q))
  ·rcases q6 with q6 | q6
   ·exact hW b q6
   ·exact .inr (Nat.le_trans f.size q6)
  ·exact fun q => q5 (.inr (hin b q))
section
variable {P : Program} {N : Nat} {Q : Exit → AS → dO → Prop} {E : dO} {all : Array Oper} {s : AS} {fuel : Nat} {listed : Array Bool}
theorem rw_post {l:List Oper}{K K':AS → Prop}(h:RW P N all (fun e s' => e = .normal ∧ K s') .txt l s) (k:∀ s',K s' → K' s'):RW P N all (fun e s' => e = .normal ∧ K' s') .txt l s:=by
 intro C a w hN g
 have := jM (P := P) (all := all) (Q2 := fun e a' w' => ∃ s',(e = .normal ∧ K' s') ∧ Gs C s' a' w') (l2 := []) (fun e a' w' ⟨s',⟨h1,h2⟩,h3⟩ => ⟨h1,wpList_nil ⟨s',⟨rfl,k _ h2⟩,h3⟩⟩) l a w (h C a w hN g)
 rwa [List.append_nil] at this
theorem bW {i:Nat}{o:Oper}(hr:Region.ready .any all listed = [i]) (ho:all[i]? = some o) (h:RW P N all (fun e s' => e = .normal ∧ zL P N all Q E fuel (listed.setIfInBounds i true) s') .txt [o] s):zL P N all Q E (fuel + 1) listed s :=
 z6 hr ho (aU (l1 := [o]) (l2 := []) (rw_post h fun s' h2 => bO ⟨rfl,h2⟩))
theorem lV {i i':Nat}{o o':Oper}(hr:Region.ready .any all listed = [i,i']) (ho:all[i]? = some o) (ho':all[i']? = some o') (h:RW P N all (fun e s' => e = .normal ∧ zL P N all Q E fuel (listed.setIfInBounds i true) s') .txt [o] s)
  (h' : RW P N all (fun e s' => e = .normal ∧ zL P N all Q E fuel (listed.setIfInBounds i' true) s') .txt [o'] s) : zL P N all Q E (fuel + 1) listed s :=
 Lp hr ho ho' (aU (l1 := [o]) (l2 := []) (rw_post h fun s' h2 => bO ⟨rfl,h2⟩)) (aU (l1 := [o']) (l2 := []) (rw_post h' fun s' h2 => bO ⟨rfl,h2⟩))
theorem yM {σ:Type}{c1 c2:Code}{ts:List (Nat × AV)}{hs:List (Nat × Option (List AV))}{n:Nat}{z0:Lo}(kl:List Nat) (kt:List (Nat × AV)) (js:List Nat) (kh:List (Nat × Option (List AV))) (n':Nat) (ot:σ → List (Nat × AV)) (oh:σ → List (Nat × Option (List AV))) (J:σ → dO) (hk:mA kl ts = kt) (hj:mZ js hs = kh)
  (h1 : dE P N c1 (Bt (fun s' E' => ∃ x,Le s' ⟨ot x ++ kt,oh x ++ kh,n',z0⟩ ∧ E' = J x) Q) E ⟨ts,hs,n,z0⟩)
  (h2 : ∀ x,dE P N c2 Q (J x) ⟨ot x ++ kt,oh x ++ kh,n',z0⟩) : dE P N (.seq c1 c2) Q E ⟨ts,hs,n,z0⟩ := by
 refine aS ?_
 intro C a w hN g
 refine wp_mono (h1 C a w hN g) ?_
 rintro e a' w' ⟨s',E',q1,q2⟩
 cases e with
 | normal =>
  obtain ⟨x,q3,rfl⟩ := q1
  exact ⟨s',_,IZ (h2 x) q3,q2⟩
 | _ => exact ⟨s',E',q1,q2⟩
end
theorem DH {ts ts':List (Nat × AV)}{hs hs':List (Nat × Option (List AV))}{n n':Nat}{z0:Lo}(h1:mE ts ts' := by repeat' (first|exact trivial | refine And.intro rfl ?_ | fail)) (h2:k7 hs hs' := by repeat' (first|exact trivial | refine And.intro (.inr rfl) ?_ | fail)) (h3:n ≤ n' := by decide):Le ⟨ts,hs,n,z0⟩ ⟨ts',hs',n',z0⟩ := Le.lit h1 h2 h3
def sV (k : Int) (n : Nat) : List Int := (List.range n).map fun (i : Nat) => k + (i : Int)
theorem nH (k:Int) (n:Nat):(sV k n).length = n := by simp [sV]
theorem DZ (k:Int) (n:Nat):sV k (n + 1) = sV k n ++ [k + (n:Int)] := by simp [sV,List.range_succ]
mutual
def Ik : Int → Stmt → Stmt
 | k,.mk _ _ _ _ th el => .mk k (k + 1) (k + 2) (k + 3) (oM (k + 4) th) (oM (k + 4 + 4 * (aM th : Nat)) el)
def oM : Int → List Stmt → List Stmt
 | _,[] => []
 | k,s :: l => Ik k s :: oM (k + 4 * (cJ s : Nat)) l
end
theorem BF (k:Int) (s:Stmt):Ik k s = .mk k (k + 1) (k + 2) (k + 3) (oM (k + 4) s.th) (oM (k + 4 + 4 * (aM s.th:Nat)) s.el):=by
 cases s;simp only [Ik]; rfl
theorem wJ:∀ (l:List Stmt) (s:Stmt) (k:Int),oM k (l ++ [s]) = oM k l ++ [Ik (k + 4 * (aM l:Nat)) s]
 | [],s,k => by simp [oM,aM]
 | a :: l, s, k => by
  have := wJ l s (k + 4 * (cJ a : Nat))
  simp only [List.cons_append,oM,aM,this]
  rw [show k + 4 * ((cJ a : Nat) : Int) + 4 * ((aM l : Nat) : Int) = k + 4 * ((cJ a + aM l : Nat) : Int) by omega]
theorem qT {l:List Stmt}{k:Nat}(hk:k < l.length):aM (l.take (k + 1)) = aM (l.take k) + cJ l[k]!:=by
 have e : l.take (k + 1) = l.take k ++ [l[k]!] := by rw [aW _ _ hk,List.take_succ_eq_append_getElem hk]
 rw [e,j9]; simp [aM]
theorem rW {l:List Stmt}{j:Nat}(hj:j < l.length) (k:Int):oM k (l.take (j + 1)) = oM k (l.take j) ++ [Ik (k + 4 * (aM (l.take j):Nat)) l[j]!]:=by
 have e : l.take (j + 1) = l.take j ++ [l[j]!] := by rw [aW _ _ hj,List.take_succ_eq_append_getElem hj]
 rw [e,wJ]
end Go.AL
