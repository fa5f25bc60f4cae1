/-
 A part of the proofs over this program: rules and contracts of its functions (the rules).
-/
import Derived.Test.YtahdccneecdmmaaGreatE2A06
import Derived.MapKept
import Derived.Orders
set_option linter.unusedVariables false
set_option linter.unusedSimpArgs false
namespace Go.AL
open Go.RowKit
section
variable {P : Program} {C : Ctx} {ι : Pl} {F : Nat → Prop} {T : Nat → Option AV} {H : Nat → Option (List AV)} {a : Act} {w : World} {o : Oper}
theorem uV (t tn ty e:TypeId) (i:TypeInfo) (z:Value) (k kn:IntKind) (ht:P.underlying t = some (.slice e)) (htn:P.underlying tn = some (.int kn)) (hi:P.info? e = some i) (hz:i.zero = some z)
  (n : Nat) (h0 : 0 < n) (hs : 0 < i.size) (h63 : n ≤ 9223372036854775807) (hb : n * i.bytes ≤ 140737488355328) :
  (Builtin.append_ #[t, tn] ty #[.slice none 0 0, .int k (n : Int)]).run P w =
   .ok (.slice (some ⟨w.heap.size,0,none⟩) n (grownCap w n 0 e)) (w.drew.alloc (.cells (Builtin.zeroCells z.cells n ++ Builtin.zeroCells z.cells (grownCap w n 0 e - n)) e)) := by
 have h1 : n ≠ 0 := by omega
 have h2 : IntKind.i64.wrap (n : Int) = n := zL (by omega)
 have h3 : ¬ (9223372036854775807 < (n : Int)) := by omega
 have hfit := growslice_fits (need := n) (old := 0) (bytes := i.bytes) (by omega) hb
 have h4 : ¬ (281474976710656 < Builtin.nextslicecap n 0 * i.bytes) := by omega
 have h5 : ¬ (281474976710656 < (n : Int) * (i.bytes : Int)) := by rw [← Int.natCast_mul]; omega
 have h6 : ¬ ((n : Int) < 0) := by omega
 have h7 : ¬ (n * i.size = 0) := Nat.mul_ne_zero h1 (by omega)
 have h8 : ∀ w : World,(Builtin.firstCells i.size 0 (.slice none 0 0)).run P w = .ok #[] w := fun w => by simp [Builtin.firstCells,loadCells,loadCellsFrom]
 simp [Builtin.append_,bX ht,bX htn,sizeOf,typeInfo,zeroValue,hi,hz,asInt,asIntOf,h2,h1,h6,h7,h3,h4,h5,Question.forced,h8,newRow,grownCap]
theorem lJ (z:Array Value):∀ n,(Builtin.zeroCells z n).toList = (List.replicate n z.toList).flatten := fun n => by
 have := pW z n (n * z.size) rfl
 simpa [Builtin.zeroCells,madeCells] using this
theorem F1 (g:TG C ι T H a w) (gh:HG C ι F H w){t tn el:TypeId}{e by' id n:Nat}{x y:Operand}{zs:List Value}{k k':IntKind}(ho:o.op = .call ⟨.builtin .append,#[x,y],#[t,tn]⟩)
  (hx : ev T x = some (.v (.slice none 0 0))) (hy : ev T y = some (.v (.int k (n : Int)))) (ht : mE P t = some el) (htn : P.underlying tn = some (.int k')) (he : eW P el = some e) (hb : AH P el = some by') (hz : nL P el = some zs) (hze : zs.length = e)
  (he0 : 0 < e) (h0 : 0 < n) (hsm : n * by' ≤ 140737488355328) (hmx : n ≤ 9223372036854775807) (hf : F id) :
  Ef P C ι (fun j => F j ∧ j ≠ id) H a w o (.own id 0 n e) (dJ H id (some ((List.replicate n (zs.map .v)).flatten))) := by
 obtain ⟨i,z,h1,h2,h3,h4⟩ := n4 hz
 have hzsz : z.cells.size = e := by rw [← hze,← h3]; simp
 have hx' := bV g hx
 have hy' := bV g hy
 simp only [Rd] at hx' hy'
 have hr := uV (P := P) (w := w) t tn o.type el i z k k' (g6 ht) htn h1 h2 n h0 (by rw [tE he h1]; exact he0) hmx (by rw [CM hb h1]; exact hsm)
 obtain ⟨g1,c1⟩ := pN gh
 have harr : (Builtin.zeroCells z.cells n).toList = (List.replicate n zs).flatten := by rw [lJ,h3]
 obtain ⟨g3, c4⟩ := g1.alloc (id := id) hf (arr := Builtin.zeroCells z.cells n ++ Builtin.zeroCells z.cells (grownCap w n 0 el - n)) el (cs := (List.replicate n (zs.map AV.v)).flatten) (l := (List.replicate n zs).flatten) (rest := (Builtin.zeroCells z.cells (grownCap w n 0 el - n)).toList)
  (by rw [Array.toList_append, harr]) (by
   have : (List.replicate n (zs.map AV.v)).flatten = ((List.replicate n zs).flatten).map AV.v := by rw [List.map_flatten,List.map_replicate]
   rw [this]; exact qO (oH zs h4 n))
 refine ⟨_,.slice (some ⟨w.heap.size,0,none⟩) n (grownCap w n 0 el),_,_,?_,.inl ⟨rfl,?_⟩,g3,c1.trans c4⟩
 ·simp [execOp,ho,resolve,invoke,builtin,hx',hy',hr]
 ·simp only [Rd]
  have hge := grownCap_ge w n 0 el
  refine .inr ⟨w.heap.size,0,_,by simp,by simp,hge,?_⟩
  have hh : (w.drew.alloc (.cells (Builtin.zeroCells z.cells n ++ Builtin.zeroCells z.cells (grownCap w n 0 el - n)) el)).heap[w.heap.size]? = some (.cells (Builtin.zeroCells z.cells n ++ Builtin.zeroCells z.cells (grownCap w n 0 el - n)) el (0,0)) := heap_alloc_new w.drew _
  rw [qR,hh]
  simp only [Array.size_append,size_zeroCells,hzsz,← Nat.add_mul]
  rw [show n + (grownCap w n 0 el - n) = grownCap w n 0 el from by omega]
  omega
end
section
variable {P : Program} {N : Nat} {Q : Exit → AS → Prop} {all : Array Oper} {rest : List Oper} {ts : List (Nat × AV)} {hs : List (Nat × Option (List AV))} {n : Nat} {z0 : Lo} {md : Md}
variable {d : Nat} {ty : TypeId} {pos : String} {af : Array Edge}
theorem F5 {t tn el:TypeId}{e by' m:Nat}{x y:Operand}{zs:List Value}{k k':IntKind}{z:Int}[ht:SlT P t el] [he:SzT P el e] [hb:ByT P el by'] [hz:ZrT P el zs] (htn:P.underlying tn = some (.int k'))
  (hx : ev (lk ts) x = some (.v (.slice none 0 0))) (hy : ev (lk ts) y = some (.v (.int k z))) (hzm : z = (m : Int)) (hze : zs.length = e) (he0 : Nat.blt 0 e = true) (h0 : 0 < m) (hsm : m * by' ≤ 140737488355328) (hmx : m ≤ 9223372036854775807)
  (hM : Nat.blt n aV = true) (hN : Nat.blt d N = true) (kk : RW P N all Q .txt rest ⟨(d,.own n 0 m e) :: ts,(n,some ((List.replicate m (zs.map .v)).flatten)) :: hs,n + 1,z0⟩) :
  RW P N all Q .txt (⟨some d,.call ⟨.builtin .append,#[x,y],#[t,tn]⟩,ty,pos,af,none⟩ :: rest) ⟨ts,hs,n,z0⟩ := by
 subst hzm
 exact Of (rs := rO x ++ rO y) rfl rfl (dC hN) hM (fun C ι F T H a w ag hF g gh => F1 g gh rfl (ag.l.ev.trans hx) (ag.r.ev.trans hy) ht.pf htn he.pf hb.pf hz.pf hze (dC he0) h0 hsm hmx hF) kk
theorem EV {t el:TypeId}{x:Operand}[ht:SlT P t el] (hx:ev (lk ts) x = some (.v (.slice none 0 0))) (hN:Nat.blt d N = true) (kk:RW P N all Q .txt rest ⟨(d,.v (.int .i64 0)) :: ts,hs,n,z0⟩) :
  RW P N all Q .txt (⟨some d,.call ⟨.builtin .cap,#[x],#[t]⟩,ty,pos,af,none⟩ :: rest) ⟨ts,hs,n,z0⟩ := by
 refine dW (out := .v (.int .i64 0)) (rs := rO x) rfl rfl (dC hN) (fun C ι F T H a w ag g gh => ?_) kk
 have hx' := bV g (ag.ev.trans hx)
 simp only [Rd] at hx'
 exact ⟨.int .i64 0,by simp [execOp,resolve,invoke,builtin,hx',Builtin.cap_,bX (g6 ht.pf),goInt],by simp only [Rd]⟩
theorem tH {t el:TypeId}{x y:Operand}{i o m e:Nat}{k:IntKind}{z:Int}{h:Nat}[ht:SlT P t el] [he:SzT P el e] (hx:ev (lk ts) x = some (.own i o m e)) (hy:ev (lk ts) y = some (.v (.int k z))) (hz:z = (h:Int)) (hb:h ≤ m) (hN:Nat.blt d N = true)
  {md' : Md} [hmd : MdA md (rO x ++ (rB none ++ rB (some y))) [.inl d] md'] (kk : RW P N all Q md' rest ⟨(d,.own i o h e) :: ts,hs,n,z0⟩) : RW P N all Q md (⟨some d,.slice t x none (some y) none,ty,pos,af,none⟩ :: rest) ⟨ts,hs,n,z0⟩ := by
 subst hz
 exact gV (m := m) (l := 0) (h := h) hx rfl rfl (by simp [jS,hy]) (by simp [L0,hb]) hN (md' := md') (hmd := hmd) kk
theorem Bw {t el e:TypeId}{x:Operand}{hi:Option Operand}[ht:SlT P t el] [he:SzT P el e] (hx:ev (lk ts) x = some (.v (.slice none 0 0))) (hh:jS (lk ts) hi 0 = some 0) (hN:Nat.blt d N = true)
  (kk : RW P N all Q .txt rest ⟨(d,.v (.slice none 0 0)) :: ts,hs,n,z0⟩) : RW P N all Q .txt (⟨some d,.slice t x none hi none,ty,pos,af,none⟩ :: rest) ⟨ts,hs,n,z0⟩ := by
 refine dW (out := .v (.slice none 0 0)) (rs := rO x ++ rB hi) rfl rfl (dC hN) (fun C ι F T H a w ag g gh => ?_) kk
 have h1 := bV g (ag.l.ev.trans hx)
 simp only [Rd] at h1
 have hu := g6 ht.pf
 have hr := iX (P := P) (w := w) (is := true) (cap := 0) g (lo := none) (hi := hi) (l := 0) (h := 0) (n := 0) rfl (ag.r.bnd.trans hh) (Nat.le_refl _) (Nat.le_refl _) (Nat.le_refl _)
 rw [show Option.map a.eval (none : Option Operand) = none from rfl] at hr
 refine ⟨.slice none 0 0,?_,by simp only [Rd]⟩
 simp [execOp,h1,Instr.sliceAt,bX hu,Instr.slice,hr,eE he.pf]
end
theorem Le.cut {ts:List (Nat × AV)}{hs:List (Nat × Option (List AV))}{n:Nat}{z0:Lo}{i:Nat}{cs:List AV}(k:Nat) (hi:aO hs i = some cs) :
  Le ⟨ts,hs,n,z0⟩ ⟨ts,(i,some (cs.take k)) :: hs,n,z0⟩ := by
 rintro C a w ⟨h0,ι,g,gh⟩
 have hσ : ∀ id c, aO ((i, some (cs.take k)) :: hs) id = some c → ∃ c0, aO hs id = some c0 ∧ (c = c0 ∨ c = c0.take k) := by
  intro id c h
  rw [cC] at h
  split at h
  ·rename_i e;subst e;cases h;exact ⟨cs,hi,.inr rfl⟩
  ·exact ⟨c,h,.inl rfl⟩
 have car : Carry w (aK C.X ι (aO hs)) ι w (aK C.X ι (aO ((i, some (cs.take k)) :: hs))) ι := by
  refine ⟨fun b o' x h1 h2 => ⟨?_,h2⟩,fun _ _ h => h,fun _ => Nat.le_refl _⟩
  rintro (h | ⟨id,c,β,q1,q2⟩)
  ·exact h1 (.inl h)
  ·obtain ⟨c0, r, _⟩ := hσ id c q1
   exact h1 (.inr ⟨id,c0,β,r,q2⟩)
 refine ⟨h0,ι,⟨g.df,g.sz,fun t av ht => ?_⟩,⟨fun id c h => ?_,fun id id' c c' b β β' q1 q2 q3 q4 => ?_,gh.fr,gh.ex,gh.fresh⟩⟩
 ·obtain ⟨y, hy, hr⟩ := g.tm t av ht
  exact ⟨y,hy,Rd.carry car _ _ hr⟩
 ·obtain ⟨c0, r, e⟩ := hσ id c h
  rcases gh.obj id c0 r with ⟨h1,h2⟩ | ⟨b',β',arr',e',h1,h2,h3,h4,h5,h6⟩
  ·refine .inl ⟨h1, ?_⟩
   rcases e with e|e
   ·rw [e,h2]
   ·rw [e,h2]; simp
  ·refine .inr ⟨b', β', arr', e', h1, h2, ?_, ?_, h5, h6⟩
   ·rcases e with e | e
    ·rw [e]; exact h3
    ·rw [e,List.length_take]; omega
   ·have h7 := RdC.carryB car _ _ _ (fun o x hx => hx) h4
    rcases e with e|e
    ·rw [e]; exact h7
    ·rw [e]; exact RdC.take k h7
 ·obtain ⟨_, r1, _⟩ := hσ id c q1
  obtain ⟨_,r2,_⟩ := hσ id' c' q2
  exact gh.sep _ _ _ _ _ _ _ r1 r2 q3 q4
def OB (l : List Int) : List AV := [sl cI l]
instance : FlT OB 1:=⟨fun _ => rfl⟩
instance : FE OB (fun l => [sl cI l]):=⟨fun _ => rfl⟩
instance (l : List Int) : Pur (OB l):=⟨by show (AV.pur (sl cI l) && true) = true;rw [Bool.and_true]; exact a9 cI l⟩
section
variable {P : Program} {N : Nat} {Q : Exit → AS → Prop} {all : Array Oper} {rest : List Oper} {ts : List (Nat × AV)} {hs : List (Nat × Option (List AV))} {n : Nat} {z0 : Lo}
variable {d : Nat} {ty : TypeId} {pos : String} {af : Array Edge}
theorem e8 {fn:Go.Fn}{cs:Array Operand}{i:Nat}{cc c:List AV}(t:Nat) (hx:lk ts t = some (.optr i 0)) (hH:aO hs i = some cc) (hc:evL (lk ((t,.iptr cc) :: ts)) cs.toList = some c) (hN:Nat.blt d N = true)
  (kk : RW P N all Q .txt rest ⟨(d,.clos fn [] c) :: (t,.iptr cc) :: ts,(i,none) :: hs,n,z0⟩) : RW P N all Q .txt (⟨some d,.makeFunc fn #[] cs,ty,pos,af,none⟩ :: rest) ⟨ts,hs,n,z0⟩ :=
 cX (lL (f := []) (c := c) rfl hc hN (md' := .txt) kk) (Le.frzP hx hH)
end
theorem Mq {P:Program}{C:Ctx}{ι:Pl}{F':Nat → Prop}{H:Nat → Option (List AV)}{a:Act}{w:World}{o:Oper}{id m e:Nat}{cs:List AV}
  (h : Ef P C ι F' H a w o (.own id 0 m e) (dJ H id (some cs))) : Ef P C ι F' H a w o (.imm m cs) (dJ H id none) := by
 obtain ⟨n,y,ι',w',h1,h2,h3,h4⟩ := h
 obtain ⟨g, c⟩ := h3.less (F' := F') (H' := dJ H id none) (fun j c hj => by
  by_cases e1 : j = id
  ·subst e1;simp at hj
  ·rw [bD _ _ e1] at hj ⊢; exact hj) (fun _ h => h)
 refine ⟨n,y,ι',w',h1,?_,g,h4.trans c⟩
 rcases h2 with ⟨e1,hr⟩ | ⟨_,_,e3⟩
 ·refine .inl ⟨e1, ?_⟩
  have hi : dJ H id (some cs) id = some cs := upd_same _ _ _
  simp only [Rd] at hr ⊢
  rcases hr with ⟨_,h2,a',h3'⟩ | ⟨b,β,c',q1,q2,q3,q4⟩
  ·subst h2;exact ⟨a',0,h3',.inl rfl⟩
  ·refine ⟨_, c', q2, ?_⟩
   rcases Nat.eq_zero_or_pos m with h5|h5
   ·exact .inl h5
   ·refine .inr ⟨b, β + 0, q3, rfl, ?_⟩
    rcases h3.obj id cs hi with ⟨r1,r2⟩ | ⟨b',β',arr,e',r1,r2,r3,r4,r5,r6⟩
    ·rw [q1] at r1;cases r1
    ·rw [q1] at r1; cases r1
     refine .inr ⟨?_,RdC.carryB c _ _ _ (fun o x hx => hx) r4⟩
     rintro (h | ⟨id',cs',β',s1,s2⟩)
     ·exact r5 h
     ·by_cases e1 : id' = id
      ·subst e1;simp at s1
      ·rw [bD _ _ e1] at s1
       exact e1 (h3.sep _ _ _ _ _ _ _ (by rw [bD _ _ e1]; exact s1) hi s2 q1)
 ·cases e3
section
variable {P : Program} {N : Nat} {Q : Exit → AS → Prop} {all : Array Oper} {rest : List Oper} {ts : List (Nat × AV)} {hs : List (Nat × Option (List AV))} {n : Nat} {z0 : Lo} {md : Md}
variable {d : Nat} {ty : TypeId} {pos : String} {af : Array Edge}
theorem sU {t el len e:Nat}{parts:Array (Nat × Operand)}{zs:List Value}{l:List (Nat × AV)}{cs:List AV}[ht:SlT P t el] [he:SzT P el e] [hz:ZrT P el zs] (hze:zs.length = e) (hsm:Nat.ble (len * e) 16777216 = true)
  (hl : evs (lk ts) parts.toList = some l) (hfl : g7 (fun i => some (i * e,e)) ((List.replicate len (zs.map .v)).flatten) l = some cs) (hM : Nat.blt n aV = true) (hN : Nat.blt d N = true) {md' : Md} [hmd : MdA md (Iz parts.toList) [.inr n,.inl d] md']
  (kk : RW P N all Q md' rest ⟨(d,.imm len cs) :: ts,(n,none) :: hs,n + 1,z0⟩) :
  RW P N all Q md (⟨some d,.buildSlice t len parts,ty,pos,af,none⟩ :: rest) ⟨ts,hs,n,z0⟩ :=
 zE (rs := Iz parts.toList) (ws := [(n, none)]) (n' := n + 1) (out := .imm len cs) rfl (fun x h => by cases h; exact dC hN) (Nat.le_succ n) (.inr (dC hM))
  (fun C ι F T H a w ag hF g gh => CB (Mq (nK g gh rfl ht.pf he.pf hz.pf hze (by simpa using hsm) (ag.evs.trans hl) hfl (hF n (Nat.le_refl n) (Nat.lt_succ_self n))))) (by rw [show md.add (Iz parts.toList) ([(n,(none : Option (List AV)))].map (fun p => .inr p.1) ++ wD (some d)) = md' from hmd.pf]; exact kk)
end
theorem oC {xs ys:List Int}{m:Nat}(hm:m = xs.length):((flat cI xs).drop 0).take (m * 1) ++ flat cI ys = flat cI (xs ++ ys):=by
 subst hm
 have h : (flat cI xs).length = xs.length * 1 := aI cI xs
 rw [List.drop_zero,List.take_of_length_le (by omega)]
 simp [flat]
theorem Ix {hs:List (Nat × Option (List AV))}{id m e':Nat}{u:List Int}(h:aO hs id = some (flat cI u)) (hm:m = u.length):sCells (aO hs) 1 (uR (.own id 0 m e')) = some (m,flat cI u):=by
 subst hm
 have hl : (flat cI u).length = u.length * 1 := aI cI u
 show ((aO hs id).bind fun cs => if u.length * 1 ≤ (cs.drop 0).length then some (u.length,(cs.drop 0).take (u.length * 1)) else none) = _
 rw [h]
 show (if u.length * 1 ≤ ((flat cI u).drop 0).length then some (u.length,((flat cI u).drop 0).take (u.length * 1)) else none) = _
 rw [List.drop_zero,if_pos (by omega),List.take_of_length_le (by omega)]
theorem s8 {f:Nat}{E:List (Nat × Nat)}{h:Nat}(hh:h < (kA f E).length):fE f E h = ((kA f E)[h]!:Int) :: fE f E (h + 1):=by
 unfold fE
 rw [List.drop_eq_getElem_cons hh,List.map_cons,aS _ _ hh]
theorem vD {f:Nat}{E:List (Nat × Nat)}{h:Nat}:fE f E h = [] ↔ (kA f E).length ≤ h:=by
 unfold fE
 rw [List.map_eq_nil_iff,List.drop_eq_nil_iff]
theorem mU (f:Nat) (E:List (Nat × Nat)) (h:Nat):(fE f E h).length = E.length + 1 - h:=by
 unfold fE;rw [List.length_map,List.length_drop,fQ]
theorem vB {f:Nat}{E:List (Nat × Nat)}{h k a:Nat}(hh:h ≤ (kA f E).length):fE f (E ++ [(k,a)]) h = fE f E h ++ [(k:Int)]:=by
 unfold fE
 have : kA f (E ++ [(k,a)]) = kA f E ++ [k] := by unfold kA;simp
 rw [this,List.drop_append_of_le_length hh]; simp
theorem xO {E:List (Nat × Nat)}{a k:Nat}(h:gW E k < 0):FN E a k = E ++ [(k,a)] := by unfold FN;rw [if_pos h]
theorem DO {E:List (Nat × Nat)}{a k:Nat}(h:0 ≤ gW E k):FN E a k = E := by unfold FN;rw [if_neg (by omega)]
structure CS (pts : List Pnt) (f t : Nat) (E : List (Nat × Nat)) (x : Nat) (R : List (Nat × Nat)) (v : List Int) : Prop where
 suf : R <:+ E.reverse
 mem : x ≠ f → x ∈ R.map (·.1)
 eq : dS (dP pts f t) = dS (Nq f R x) ++ v
 len : v.length + R.length ≤ E.length
 xl : x < pts.length
section
variable {pts : List Pnt} {f t : Nat} (w : ∀ i,i < pts.length → ∀ k ∈ pts[i]!.next,0 ≤ k ∧ k < pts.length) (hf : f < pts.length)
include w hf
theorem CS.start {E:List (Nat × Nat)}(hE:E <+: mF pts f) (ht:0 ≤ gW E t):BI pts f E ∧ ∃ (a:Nat) (R:List (Nat × Nat)),gW E t = (a:Int) ∧ CS pts f t E a R [(t:Int)]:=by
 obtain ⟨e,I⟩ := MD w hf hE ht
 refine ⟨I,?_⟩
 obtain ⟨a,R,h1,h2,h3,h4,h5⟩ := mB I (List.suffix_refl _) (by rw [List.map_reverse,List.mem_reverse]; exact eH.1 ht : t ∈ E.reverse.map (·.1))
 refine ⟨a,R,h1,h2,h5,?_,by rw [List.length_reverse] at h3;simp;omega,?_⟩
 ·rw [e,h4]; simp [dS]
 ·by_cases h : a = f
  ·rw [h]; exact hf
  ·obtain ⟨x, hx, rfl⟩ := List.mem_map.1 (h5 h)
   have : x ∈ E := by rw [← List.mem_reverse]; exact h2.subset hx
   exact ((I.le w).2 x this).1
theorem CS.step {E R:List (Nat × Nat)}{x:Nat}{v:List Int}(I:BI pts f E) (c:CS pts f t E x R v) (hx:x ≠ f):∃ (a:Nat) (R':List (Nat × Nat)),gW E x = (a:Int) ∧ CS pts f t E a R' ((x:Int) :: v) ∧ R'.length < R.length:=by
 obtain ⟨a,R',h1,h2,h3,h4,h5⟩ := mB I c.suf (c.mem hx)
 refine ⟨a,R',h1,⟨h2,h5,?_,by have := c.len;simp;omega,?_⟩,h3⟩
 ·rw [c.eq]; unfold Nq at h4 ⊢; rw [if_neg hx,h4]; simp [dS]
 ·by_cases h : a = f
  ·rw [h]; exact hf
  ·obtain ⟨x, hx, rfl⟩ := List.mem_map.1 (h5 h)
   have : x ∈ E := by rw [← List.mem_reverse]; exact h2.subset hx
   exact ((I.le w).2 x this).1
end
theorem CS.fin {pts:List Pnt}{f t:Nat}{E R:List (Nat × Nat)}{v:List Int}(c:CS pts f t E f R v):dS (dP pts f t) = (f:Int) :: v:=by
 rw [c.eq]; unfold Nq;rw [if_pos rfl]; rfl
theorem cQ (l:List Nat):(dS l).length = l.length := by unfold dS;simp
theorem xQ {W:Nat → List Nat}{U:Nat → Bool}{i:Nat}(h:U i = false ∨ W i = []):jT W U (i + 1) = jT W U i:=by
 rw [jT,if_neg]
 rintro ⟨h1,h2,_⟩
 rcases h with h|h
 ·rw [h] at h1;cases h1
 ·exact h2 h
theorem rE {W:Nat → List Nat}{U:Nat → Bool}{i:Nat}(h1:U i = true) (h2:W i ≠ []) (h3:(jT W U i).1 < 0 ∨ (W i).length < (jT W U i).2.length):jT W U (i + 1) = ((i:Int),W i):=by
 rw [jT,if_pos ⟨h1,h2,h3⟩]
theorem C9 {W:Nat → List Nat}{U:Nat → Bool}{i:Nat}(h3:0 ≤ (jT W U i).1) (h4:(jT W U i).2.length ≤ (W i).length):jT W U (i + 1) = jT W U i:=by
 rw [jT,if_neg]
 rintro ⟨_,_,h5⟩
 omega
theorem DM {pts:List Pnt}{f x:Nat}(w:∀ i,i < pts.length → ∀ k ∈ pts[i]!.next,0 ≤ k ∧ k < pts.length) (hf:f < pts.length) (h:0 ≤ gW (mF pts f) x):dP pts f x ≠ [] := (iM w hf).2 ((fP w hf x).1 h)
theorem DX {pts:List Pnt}{f x:Nat}(h:gW (mF pts f) x < 0):dP pts f x = [] := by unfold dP;rw [if_neg (by omega)]
theorem Dj {pts:List Pnt}{f:Nat}{E:List (Nat × Nat)}(I:BI pts f E):∀ n R x,R.length ≤ n → R <:+ E.reverse → x ∈ R.map (·.1) → (Bz f R x).length ≤ R.length + 1
 | n, R, x, hn, hR, hx => by
  obtain ⟨a,R',_,h2,h3,h4,h5⟩ := mB I hR hx
  rw [h4]
  unfold Nq
  by_cases e : a = f
  ·rw [if_pos e]; simp;omega
  ·rw [if_neg e]
   cases n with
   | zero => omega
   | succ n =>
    have := Dj I n R' a (by omega) h2 (h5 e)
    rw [List.length_append,List.length_singleton]; omega
theorem gO {pts:List Pnt}{f x:Nat}(w:∀ i,i < pts.length → ∀ k ∈ pts[i]!.next,0 ≤ k ∧ k < pts.length) (hf:f < pts.length):(dP pts f x).length ≤ pts.length + 1:=by
 unfold dP
 split
 ·rename_i h
  have I : BI pts f (mF pts f) := nI w hf _
  have := Dj I _ _ _ (Nat.le_refl _) (List.suffix_refl _) (by rw [List.map_reverse,List.mem_reverse]; exact eH.1 h : x ∈ (mF pts f).reverse.map (·.1))
  have h2 := (I.le w).1
  rw [List.length_reverse] at this;omega
 ·simp
theorem F7 (ts:List Int) (pts:List Pnt) (Af:List Nat) (loan i:Nat) (hn:ts.length ≤ 6):((a8 (wS ts pts[i]! [1,2,3])).any fun v => (cY Af i)[v.toNat]!.testBit loan) = dR ts pts Af loan i:=by
 rw [Bool.eq_iff_iff,List.any_eq_true]
 unfold dR
 rw [List.any_eq_true]
 constructor
 ·rintro ⟨z, hz, h2⟩
  obtain ⟨v,h3,h4,rfl⟩ := cM.1 hz
  rw [b9] at h4
  simp only [Bool.and_eq_true,decide_eq_true_eq] at h4
  refine ⟨v,List.mem_range.2 h4.1,?_⟩
  rw [Int.toNat_natCast] at h2
  rw [h2,Bool.and_true,decide_eq_true_eq]
  intro h0;rw [h0] at h4;simp at h4
 ·rintro ⟨v, hv, h2⟩
  simp only [Bool.and_eq_true,decide_eq_true_eq,List.mem_range] at h2 hv
  have := pA ts pts[i]! v
  refine ⟨(v : Int),cM.2 ⟨v,by omega,?_,rfl⟩,by rw [Int.toNat_natCast]; exact h2.2⟩
  rw [b9]
  simp only [Bool.and_eq_true,decide_eq_true_eq,List.mem_cons,List.not_mem_nil,or_false]
  omega
structure RI (pts : List Pnt) (a : Nat) (F : List Bool) (T : List Int) : Prop where
 len : F.length = pts.length
 src : ∀ k ∈ pts[a]!.next,F[k.toNat]! = true ∨ k ∈ T
 cl : ∀ i,i < pts.length → F[i]! = true → ∀ k ∈ pts[i]!.next,F[k.toNat]! = true ∨ k ∈ T
 snd : ∀ i,i < pts.length → F[i]! = true → Wy pts a i
 tw : ∀ k ∈ T,0 ≤ k ∧ k < pts.length ∧ Wy pts a k.toNat
def Ci (F : List Bool) (T : List Int) : Nat := 3 * F.countP (fun b => !b) + T.length
theorem RI.start {pts:List Pnt}{a:Nat}(w:∀ i,i < pts.length → ∀ k ∈ pts[i]!.next,0 ≤ k ∧ k < pts.length) (ha:a < pts.length):RI pts a (List.replicate pts.length false) pts[a]!.next:=by
 have h0 : ∀ i, (List.replicate pts.length false)[i]! = true → False := fun i h => by
  by_cases hi : i < pts.length
  ·rw [aS _ i (by simpa using hi)] at h;simp at h
  ·rw [getElem!_neg _ i (by simpa using hi)] at h;cases h
 exact ⟨by simp, fun k hk => .inr hk, fun i hi h => (h0 i h).elim, fun i hi h => (h0 i h).elim, fun k hk =>
  ⟨(w a ha k hk).1,(w a ha k hk).2,.base ⟨ha,by rw [Int.toNat_of_nonneg (w a ha k hk).1]; exact hk⟩⟩⟩
theorem RI.vis {pts:List Pnt}{a:Nat}{F:List Bool}{T T':List Int}{k:Int}(I:RI pts a F T) (h1:∀ x ∈ T,x = k ∨ x ∈ T') (h2:∀ x ∈ T',x ∈ T) (hF:F[k.toNat]! = true):RI pts a F T':=by
 have key : ∀ x, F[x.toNat]! = true ∨ x ∈ T → F[x.toNat]! = true ∨ x ∈ T' := fun x h => by
  rcases h with h|h
  ·exact .inl h
  ·rcases h1 x h with rfl | h
   ·exact .inl hF
   ·exact .inr h
 exact ⟨I.len,fun x hx => key x (I.src x hx),fun i hi h x hx => key x (I.cl i hi h x hx),I.snd,fun x hx => I.tw x (h2 x hx)⟩
theorem RI.new {pts:List Pnt}{a:Nat}(w:∀ i,i < pts.length → ∀ k ∈ pts[i]!.next,0 ≤ k ∧ k < pts.length){F:List Bool}{T T':List Int}{k:Int}(I:RI pts a F T) (hk:k ∈ T) (h1:∀ x ∈ T,x = k ∨ x ∈ T') (h2:∀ x ∈ pts[k.toNat]!.next,x ∈ T') (h3:∀ x ∈ T',x ∈ T ∨ x ∈ pts[k.toNat]!.next) :
  RI pts a (F.set k.toNat true) T' := by
 have hkl := I.tw k hk
 have hl := I.len
 have mono : ∀ i : Nat, F[i]! = true → (F.set k.toNat true)[i]! = true := fun i h => by
  rw [aQ]; split
  ·rfl
  ·exact h
 have hkk : (F.set k.toNat true)[k.toNat]! = true := by rw [aQ,if_pos ⟨rfl,by omega⟩]
 have key : ∀ x, F[x.toNat]! = true ∨ x ∈ T → (F.set k.toNat true)[x.toNat]! = true ∨ x ∈ T' := fun x h => by
  rcases h with h|h
  ·exact .inl (mono _ h)
  ·rcases h1 x h with rfl | h
   ·exact .inl hkk
   ·exact .inr h
 have hold : ∀ i, (F.set k.toNat true)[i]! = true → i = k.toNat ∨ F[i]! = true := fun i h => by
  rw [aQ] at h;split at h
  ·rename_i e;exact .inl e.1.symm
  ·exact .inr h
 refine ⟨by rw [List.length_set]; exact hl,fun x hx => key x (I.src x hx),fun i hi h x hx => ?_,fun i hi h => ?_,fun x hx => ?_⟩
 ·rcases hold i h with rfl | h
  ·exact .inr (h2 x hx)
  ·exact key x (I.cl i hi h x hx)
 ·rcases hold i h with rfl | h
  ·exact hkl.2.2
  ·exact I.snd i hi h
 ·rcases h3 x hx with h | h
  ·exact I.tw x h
  ·have := w _ (by omega) x h
   exact ⟨this.1,this.2,.step hkl.2.2 ⟨by omega,by rw [Int.toNat_of_nonneg this.1]; exact h⟩⟩
theorem RI.fin {pts:List Pnt}{a:Nat}{F F0:List Bool}(I:RI pts a F []) (hF:GoodR pts a F0) (w:∀ i,i < pts.length → ∀ k ∈ pts[i]!.next,0 ≤ k ∧ k < pts.length):F = F0:=by
 refine bG (by rw [I.len,hF.l]) fun i hi => ?_
 rw [I.len] at hi
 rw [Bool.eq_iff_iff,hF.g i hi]
 refine ⟨I.snd i hi,fun h => ?_⟩
 have := Clo.sub (T := fun k => F[k]! = true) (fun k he => ?_) (fun x y hx he => ?_) i h
 ·exact this
 ·rcases I.src _ he.2 with h | h
  ·simpa using h
  ·cases h
 ·rcases I.cl x he.1 hx _ he.2 with h | h
  ·simpa using h
  ·cases h
theorem Jv {F:List Bool}{k:Nat}(hk:k < F.length) (h:F[k]! = false) (T:List Int):Ci (F.set k true) T + 3 = Ci F T:=by
 unfold Ci
 have h1 : F[k] = false := by rw [← aS F k hk]; exact h
 have h2 : 0 < F.countP (fun b => !b) := List.countP_pos_iff.2 ⟨F[k],List.getElem_mem hk,by rw [h1]; rfl⟩
 rw [List.countP_set hk,h1]; simp;omega
theorem Kb (F:List Bool) (T:List Int):T.length ≤ Ci F T := by unfold Ci;omega
theorem Kp (F:List Bool) (T S:List Int):Ci F (T ++ S) = Ci F T + S.length := by unfold Ci;rw [List.length_append]; omega
theorem E1 {n:Nat}{T:List Int}(hn:n ≤ 61) (hT:T.length ≤ 2):Ci (List.replicate n false) T ≤ 200:=by
 unfold Ci
 have : (List.replicate n false).countP (fun b => !b) ≤ n := Nat.le_trans List.countP_le_length (by simp)
 omega
theorem GF (E:List (Nat × Nat)) (a:Nat) (A B:List Int):iY E a (A ++ B) = iY (iY E a A) a B := by unfold iY;rw [List.foldl_append]
theorem EG (E:List (Nat × Nat)) (a:Nat) (L:List Int) (k:Nat):iY E a (L.take k) <+: iY E a L:=by
 have : iY E a L = iY (iY E a (L.take k)) a (L.drop k) := by rw [← GF,List.take_append_drop]
 rw [this]; exact gU _ _ _
theorem Im {pts:List Pnt}{f h a:Nat}(hlt:h < (kA f (jQ pts f h)).length) (ha:a = (kA f (jQ pts f h))[h]!):jQ pts f (h + 1) = iY (jQ pts f h) a pts[a]!.next:=by
 rw [jQ,if_pos hlt,← ha]
theorem J2 (a b:List Nat):dS (a ++ b) = dS a ++ dS b := by unfold dS;simp
theorem GJ {T:List Int}{m:Nat}:(flat cI T).take m = flat cI (T.take m):=by
 have := dK cI (e := 1) T m;rw [Nat.mul_one] at this;exact this
theorem IF {T:List Int}{m:Nat}(hm:m = T.length) (h:0 < m):T[m - 1]! ∈ T ∧ ∀ x ∈ T,x = T[m - 1]! ∨ x ∈ T.take (m - 1):=by
 subst hm
 refine ⟨aN _ _ (by omega),fun x hx => ?_⟩
 have e : T = T.take (T.length - 1) ++ [T[T.length - 1]!] := by
  rw [← b0 T _ (by omega),show T.length - 1 + 1 = T.length by omega,List.take_length]
 rw [e] at hx
 rcases List.mem_append.1 hx with h|h
 ·exact .inr h
 ·exact .inl (List.mem_singleton.1 h)
theorem JA {W:Nat → List Nat}{U:Nat → Bool}{m:Nat}(h:∀ j,(W j).length ≤ m) (i:Nat):(jT W U i).2.length ≤ m:=by
 rcases oR W U i with ⟨_,e⟩ | ⟨j,_,_,_,e,_⟩
 ·rw [e]; exact Nat.zero_le _
 ·rw [e]; exact h j
theorem Gj {pts:List Pnt}{f:Nat}(w:∀ i,i < pts.length → ∀ k ∈ pts[i]!.next,0 ≤ k ∧ k < pts.length) (hf:f < pts.length){U:Nat → Bool}{i:Nat}{bl:List Int}(hbl:bl = dS (jT (dP pts f) U i).2) (h0:bl.length ≠ 0) :
  bl[((bl.length : Int) - 1).toNat]! = (jT (dP pts f) U i).1 ∧ 0 ≤ (jT (dP pts f) U i).1 := by
 rcases oR (dP pts f) U i with ⟨_,e⟩ | ⟨j,_,e1,_,e,hn⟩
 ·rw [hbl,e] at h0;exact absurd rfl h0
 ·refine ⟨?_, by omega⟩
  obtain ⟨T,hT⟩ := oE w hf ((fP w hf j).2 ((iM w hf).1 hn))
  rw [e1]
  have eb : bl = dS (f :: T) ++ [(j : Int)] := by rw [hbl,e,hT,← List.cons_append,J2]; rfl
  have el : ((bl.length : Int) - 1).toNat = (dS (f :: T)).length := by rw [eb]; simp
  rw [el,eb,eZ,if_neg (by omega),Nat.sub_self]; rfl
theorem Kk {W:Nat → List Nat}{U:Nat → Bool}{i:Nat}:((jT W U i).1 < 0 ∧ (jT W U i).2.length = 0) ∨ (0 ≤ (jT W U i).1 ∧ 0 < (jT W U i).2.length):=by
 rcases oR W U i with ⟨e1,e⟩ | ⟨j,_,e1,_,e,hn⟩
 ·rw [e,e1]; exact .inl ⟨by decide,rfl⟩
 ·rw [e,e1]; exact .inr ⟨by omega,List.length_pos_iff.2 hn⟩
theorem Rch.wy {pts:List Pnt}(r:Rch pts):∀ n t,t ≤ n → 0 < t → t < pts.length → Wy pts 0 t
 | n, t, hn, h0, ht => by
  obtain ⟨j,hj,e⟩ := r t h0 ht
  by_cases hz : j = 0
  ·subst hz;exact .base e
  ·cases n with
   | zero => omega
   | succ n => exact .step (r.wy n j (by omega) (by omega) e.1) e
def wG (pts : List Pnt) (t : Nat) : List Nat := if t = 0 then [0] else dP pts 0 t
theorem zN {pts:List Pnt}(w:∀ i,i < pts.length → ∀ k ∈ pts[i]!.next,0 ≤ k ∧ k < pts.length) (r:Rch pts){t:Nat}(ht:t < pts.length):∃ T,wG pts t = 0 :: T:=by
 unfold wG
 by_cases h : t = 0
 ·rw [if_pos h]; exact ⟨[],rfl⟩
 ·rw [if_neg h]
  obtain ⟨T,e⟩ := oE w (by omega) ((fP w (by omega) t).2 (r.wy t t (Nat.le_refl _) (by omega) ht))
  exact ⟨_,e⟩
theorem rV {pts:List Pnt}(w:∀ i,i < pts.length → ∀ k ∈ pts[i]!.next,0 ≤ k ∧ k < pts.length) (h0:0 < pts.length) (t:Nat):(wG pts t).length ≤ pts.length + 1:=by
 unfold wG;split
 ·simp
 ·exact gO w h0
end Go.AL
namespace Go.AL
def Chn (pts : List Pnt) : List Nat → Prop
 | [] => True
 | [_] => True
 | a :: b :: l => cE pts a b ∧ Chn pts (b :: l)
theorem Chn.snoc {pts:List Pnt}{a x:Nat}(e:cE pts a x):∀ T:List Nat,Chn pts (T ++ [a]) → Chn pts (T ++ [a] ++ [x])
 | [],_ => ⟨e,trivial⟩
 | [b],h => ⟨h.1,e,trivial⟩
 | b :: c :: T,h => ⟨h.1,Chn.snoc e (c :: T) h.2⟩
theorem Chn.join {pts:List Pnt}{x:Nat}{B:List Nat}(h2:Chn pts (x :: B)):∀ A:List Nat,Chn pts (A ++ [x]) → Chn pts (A ++ [x] ++ B)
 | [],_ => h2
 | [b],h => ⟨h.1,h2⟩
 | b :: c :: A,h => ⟨h.1,Chn.join h2 (c :: A) h.2⟩
theorem Chn.at {pts:List Pnt}:∀ (W:List Nat) (i:Nat),Chn pts W → i + 1 < W.length → cE pts W[i]! W[i + 1]!
 | [],_,_,h => by simp at h
 | [_],i,_,h => by simp at h
 | a :: b :: l,0,hc,h => hc.1
 | a :: b :: l, i + 1, hc, h => by
  have := Chn.at (b :: l) i hc.2 (by simpa using h)
  exact this
theorem Jw {E:List (Nat × Nat)}{k a:Nat}(h:gW E k = (a:Int)):(k,a) ∈ E:=by
 unfold gW at h
 cases q : E.find? (fun e => e.1 == k) with
 | none => rw [q] at h;dsimp only at h;omega
 | some e =>
  rw [q] at h;dsimp only at h
  have h1 := List.find?_some q
  have h2 := List.mem_of_find?_eq_some q
  simp only [beq_iff_eq] at h1
  have e2 : e = (k,a) := by rw [← h1,show a = e.2 by omega]
  rw [← e2]; exact h2
theorem DV {pts:List Pnt}{f:Nat}{E:List (Nat × Nat)}(I:BI pts f E):∀ n R x,R.length ≤ n → R <:+ E.reverse → x ∈ R.map (·.1) → Chn pts (Bz f R x) ∧ ∃ T,Bz f R x = T ++ [x]
 | n, R, x, hn, hR, hx => by
  obtain ⟨a,R',h1,h2,h3,h4,h5⟩ := mB I hR hx
  have he := I.ed _ (Jw h1)
  rw [h4]
  refine ⟨?_,_,rfl⟩
  unfold Nq
  by_cases e : a = f
  ·rw [if_pos e]; subst e;exact ⟨he,trivial⟩
  ·rw [if_neg e]
   cases n with
   | zero => omega
   | succ n =>
    obtain ⟨hc,T,hT⟩ := DV I n R' a (by omega) h2 (h5 e)
    rw [hT] at hc ⊢
    exact Chn.snoc he T hc
section
variable {pts : List Pnt} (w : ∀ i,i < pts.length → ∀ k ∈ pts[i]!.next,0 ≤ k ∧ k < pts.length)
include w
theorem yI {f x:Nat}(hf:f < pts.length) (h:dP pts f x ≠ []):Chn pts (dP pts f x) ∧ ∃ T,dP pts f x = f :: (T ++ [x]):=by
 have h0 : 0 ≤ gW (mF pts f) x := (fP w hf x).2 ((iM w hf).1 h)
 refine ⟨?_,oE w hf h0⟩
 unfold dP
 rw [if_pos h0]
 exact (DV (nI w hf _) _ _ _ (Nat.le_refl _) (List.suffix_refl _) (by rw [List.map_reverse,List.mem_reverse]; exact eH.1 h0)).1
theorem DW (r:Rch pts){t:Nat}(ht:t < pts.length):Chn pts (wG pts t) ∧ ∃ A,wG pts t = A ++ [t]:=by
 unfold wG
 by_cases h : t = 0
 ·rw [if_pos h]; subst h;exact ⟨trivial,[],rfl⟩
 ·rw [if_neg h]
  obtain ⟨h1,T,e⟩ := yI w (f := 0) (x := t) (by omega) ((iM w (by omega)).2 (r.wy t t (Nat.le_refl _) (by omega) ht))
  exact ⟨h1,0 :: T,by rw [e]; rfl⟩
theorem GS (r:Rch pts){l a u:Nat}(ha:a < pts.length) (hl:l < pts.length) (h2:dP pts l a ≠ []) (h3:dP pts a u ≠ []):Chn pts (wG pts l ++ (dP pts l a).drop 1 ++ (dP pts a u).drop 1):=by
 obtain ⟨c1,A,e1⟩ := DW w r hl
 obtain ⟨c2,B,e2⟩ := yI w hl h2
 obtain ⟨c3,C,e3⟩ := yI w ha h3
 rw [e1] at c1 ⊢
 rw [e2] at c2 ⊢
 rw [e3] at c3 ⊢
 have h4 := Chn.join c2 A c1
 have h5 : Chn pts ((A ++ [l] ++ B) ++ [a]) := by simpa using h4
 have h6 := Chn.join c3 _ h5
 simpa using h6
end
structure Bnd where
 var : Int
 loan : Int
 src : Int
 deriving Inhabited,DecidableEq
structure WT (ts : List Int) (pts : List Pnt) : Prop where
 mv : ∀ i,i < pts.length → pts[i]!.op = 3 → ts[pts[i]!.x.toNat]! = ts[pts[i]!.y.toNat]! ∧ pts[i]!.x ≠ pts[i]!.y
 ln : ∀ i,i < pts.length → pts[i]!.op = 4 ∨ pts[i]!.op = 5 → gC ts[pts[i]!.x.toNat]! = true ∧ pts[i]!.x ≠ pts[i]!.y
def PtY (ts : List Int) (x : Pnt) : Prop := (x.op = 3 → ts[x.x.toNat]! = ts[x.y.toNat]! ∧ x.x ≠ x.y) ∧ (x.op = 4 ∨ x.op = 5 → gC ts[x.x.toNat]! = true ∧ x.x ≠ x.y)
theorem iV {ts:List Int}{v:Int}(h:0 < eV ts v):eV ts v = ts[v.toNat]!:=by
 unfold eV at h ⊢
 split at h
 ·rename_i c;rw [if_pos c]
 ·omega
theorem D8 {ts:List Int}{s:Stmt}(h:dA ts s = true):(s.op = 3 → ts[s.x.toNat]! = ts[s.y.toNat]! ∧ s.x ≠ s.y) ∧ (s.op = 4 ∨ s.op = 5 → gC ts[s.x.toNat]! = true ∧ s.x ≠ s.y):=by
 unfold dA at h
 dsimp only at h
 refine ⟨fun h3 => ?_,fun h4 => ?_⟩
 ·rw [h3] at h
  simp only [show ¬ (3 : Int) = 1 by decide,show ¬ (3 : Int) = 2 by decide,if_false,if_true] at h
  split at h
  ·cases h
  ·simp only [decide_eq_true_eq] at h
   refine ⟨?_,h.2.2⟩
   rw [← iV h.2.1,h.1,iV (by omega)]
 ·rcases h4 with h4 | h4 <;> rw [h4] at h
  ·simp only [show ¬ (4 : Int) = 1 by decide, show ¬ (4 : Int) = 2 by decide, show ¬ (4 : Int) = 3 by decide, if_false, if_true] at h
   split at h
   ·cases h
   ·simp only [decide_eq_true_eq] at h
    refine ⟨?_,h.2.2⟩
    rw [← iV (by omega),h.1]; rfl
  ·simp only [show ¬ (5 : Int) = 1 by decide, show ¬ (5 : Int) = 2 by decide, show ¬ (5 : Int) = 3 by decide, show ¬ (5 : Int) = 4 by decide, if_false, if_true] at h
   split at h
   ·cases h
   ·simp only [decide_eq_true_eq] at h
    refine ⟨?_,h.2.2⟩
    rw [← iV (by omega),h.1]; rfl
theorem PtY.no {ts:List Int}{x:Pnt}(h:9 ≤ x.op):PtY ts x := ⟨fun e => by omega,fun e => by omega⟩
mutual
theorem Nt {ts:List Int}:∀ (s:Stmt) (d b:Nat),rR ts d s = true → ∀ x ∈ uH b s,PtY ts x
 | .mk op x y n th el, d, b, h => by
  simp only [rR] at h
  split at h
  ·rename_i hop
   simp only [Bool.and_eq_true] at h
   have hs := D8 h.2
   simp only [Stmt.op,Stmt.x,Stmt.y] at hs
   simp only [uH,hop.1,hop.2,if_false,List.mem_singleton]
   rintro z rfl
   exact hs
  ·rename_i hop
   cases d with
   | zero => cases h
   | succ d =>
    simp only [Bool.and_eq_true,decide_eq_true_eq] at h
    obtain ⟨⟨⟨_,_⟩,h1⟩,h2⟩ := h
    by_cases h9 : op = 9
    ·subst h9
     simp only [uH,if_true,List.mem_append,List.mem_singleton]
     rintro z (((rfl|hz)|rfl)|hz)
     ·exact PtY.no (by simp)
     ·exact sI th d (b + 1) h1 z hz
     ·exact PtY.no (by simp)
     ·exact sI el d (b + 2 + cR th) h2 z hz
    ·have h10 : op = 10 := by omega
     subst h10
     simp only [uH,if_true,show ((10 : Int) = 9) = False by simp,if_false,List.mem_append,List.mem_singleton]
     rintro z ((rfl|hz)|rfl)
     ·exact PtY.no (by simp)
     ·exact sI th d (b + 1) h1 z hz
     ·exact PtY.no (by simp)
theorem sI {ts:List Int}:∀ (l:List Stmt) (d b:Nat),okL ts d l = true → ∀ x ∈ fD b l,PtY ts x
 | [],d,b,h => by simp [fD]
 | s :: l, d, b, h => by
  simp only [okL,Bool.and_eq_true] at h
  simp only [fD,List.mem_append]
  rintro x (hx|hx)
  ·exact Nt s d b h.1 x hx
  ·exact sI l d (b + n6 s) h.2 x hx
end
theorem WT.of_valid {p:Prg}(h:bK p = true):WT p.types (aC p):=by
 unfold bK at h
 simp only [Bool.and_eq_true,decide_eq_true_eq] at h
 obtain ⟨⟨_,hl⟩,_⟩ := h
 have key : ∀ i, i < (aC p).length → PtY p.types (aC p)[i]! := by
  intro i hi
  have hm := aN _ i hi
  unfold aC at hm
  rw [List.mem_append,List.mem_singleton] at hm
  rcases hm with hm|hm
  ·exact sI p.body 4 0 hl _ hm
  ·unfold aC;rw [hm]; exact PtY.no (by simp)
 exact ⟨fun i hi => (key i hi).1,fun i hi => (key i hi).2⟩
def OY (ts : List Int) (pts : List Pnt) (i : Nat) : List Bnd :=
 (if bY pts[i]! = true then [⟨pts[i]!.x,i,-1⟩] else []) ++ (if (bY pts[i]! = true ∨ pts[i]!.op = 3) ∧ gC ts[pts[i]!.y.toNat]! = true then [⟨pts[i]!.x,-1,pts[i]!.y⟩] else [])
def NZ (ts : List Int) (pts : List Pnt) (k : Nat) : List Bnd := (List.range k).flatMap (OY ts pts)
theorem Ke {ts:List Int}{pts:List Pnt}{k:Nat}{b:Bnd}:b ∈ NZ ts pts k ↔ ∃ i,i < k ∧ b ∈ OY ts pts i:=by
 unfold NZ;rw [List.mem_flatMap]; simp
structure BOk (nt n : Nat) (b : Bnd) : Prop where
 v : 0 ≤ b.var ∧ b.var < nt
 k : (0 ≤ b.loan ∧ b.loan < n ∧ b.src = -1) ∨ (b.loan = -1 ∧ 0 ≤ b.src ∧ b.src < nt ∧ b.src ≠ b.var)
theorem Ll {ts:List Int}{pts:List Pnt}(w:WG ts pts) (t:WT ts pts){b:Bnd}(h:b ∈ NZ ts pts pts.length):BOk ts.length pts.length b:=by
 obtain ⟨i,hi,hb⟩ := Ke.1 h
 unfold OY at hb
 have hx := w.x i hi
 have hy := w.y i hi
 rcases List.mem_append.1 hb with hb|hb
 ·split at hb
  ·rename_i hl
   have := k4 hl
   rw [List.mem_singleton] at hb;subst hb
   exact ⟨⟨hx.1,hx.2 (by omega)⟩,.inl ⟨by dsimp only;omega,by dsimp only;omega,rfl⟩⟩
  ·simp at hb
 ·split at hb
  ·rename_i hl
   have h3 : pts[i]!.op = 3 ∨ pts[i]!.op = 4 ∨ pts[i]!.op = 5 := by
    rcases hl.1 with h|h
    ·exact .inr (k4 h)
    ·exact .inl h
   rw [List.mem_singleton] at hb;subst hb
   refine ⟨⟨hx.1,hx.2 (by omega)⟩,.inr ⟨rfl,hy.1,hy.2 (by omega) (by omega),fun e => ?_⟩⟩
   dsimp only at e
   rcases h3 with h|h
   ·exact (t.mv i hi h).2 e.symm
   ·exact (t.ln i hi h).2 e.symm
  ·simp at hb
def Rg (ts : List Int) (pts : List Pnt) (a : Nat × Nat) : Prop := Clo (fun a : Nat × Nat => ∃ b,b ∈ NZ ts pts pts.length ∧ b.var = (a.1 : Int) ∧ b.loan = (a.2 : Int))
 (fun a c => c.2 = a.2 ∧ ∃ b,b ∈ NZ ts pts pts.length ∧ b.src = (a.1 : Int) ∧ b.var = (c.1 : Int)) a
theorem On {ts:List Int}{pts:List Pnt}(w:WG ts pts) (t:WT ts pts){a:Nat × Nat}(h:Rg ts pts a):a.1 < ts.length ∧ a.2 < pts.length:=by
 induction h with
 | @base a h =>
  obtain ⟨b,hb,h1,h2⟩ := h
  have hk := Ll w t hb
  have := hk.v
  rcases hk.k with h|h <;> exact ⟨by omega,by omega⟩
 | @step a c _ r ih =>
  obtain ⟨e,b,hb,h1,h2⟩ := r
  have := (Ll w t hb).v
  exact ⟨by omega,by rw [e]; exact ih.2⟩
def GoodG (ts : List Int) (pts : List Pnt) (A : List Nat) : Prop := A.length = 6 ∧ ∀ v,v < 6 → ∀ l,A[v]!.testBit l = true ↔ Rg ts pts (v,l)
theorem GoodG.exist {ts:List Int}{pts:List Pnt}(w:WG ts pts) (t:WT ts pts):∃ A,GoodG ts pts A:=by
 obtain ⟨A,h1,h2⟩ := kQ 6 pts.length (fun v l => Rg ts pts (v,l)) (fun v l _ h => (On w t h).2)
 exact ⟨A,h1,h2⟩
structure SRg (ts : List Int) (pts : List Pnt) (A : List Nat) : Prop where
 l : A.length = 6
 b : ∀ v : Nat,A[v]! < 2 ^ pts.length
 s : ∀ v : Nat,∀ l,A[v]!.testBit l = true → Rg ts pts (v,l)
theorem SRg.rep (ts:List Int) (pts:List Pnt):SRg ts pts (List.replicate 6 0):=by
 have h : ∀ v : Nat, (List.replicate 6 0)[v]! = 0 := fun v => by
  by_cases hv : v < 6
  ·exact cD _ _ _ hv
  ·rw [getElem!_neg _ v (by simpa using hv)]; rfl
 exact ⟨by simp,fun v => by rw [h]; exact Nat.pow_pos (by decide),fun v l hl => by rw [h] at hl;simp at hl⟩
structure SRr (ts : List Int) (pts : List Pnt) (R : List (List Bool)) : Prop where
 l : R.length = ts.length
 r : ∀ v,v < ts.length → R[v]!.length = pts.length
 s : ∀ v,v < ts.length → ∀ l,l < pts.length → R[v]![l]! = true → Rg ts pts (v,l)
theorem SRr.rep (ts:List Int) (pts:List Pnt):SRr ts pts (List.replicate ts.length (List.replicate pts.length false)):=by
 refine ⟨by simp,fun v hv => by rw [cD _ _ _ hv]; simp,fun v hv l hl h => ?_⟩
 rw [cD _ _ _ hv,cD _ _ _ hl] at h;cases h
end Go.AL
namespace Go.AL
def HL (a b : Iss) : Bool := a.point == b.point && (a.kind == b.kind && a.with_ == b.with_)
theorem rU (a b:Iss):HL a b = true ↔ a = b:=by
 unfold HL
 simp only [Bool.and_eq_true,beq_iff_eq]
 constructor
 ·rintro ⟨h1,h2,h3⟩; cases a;cases b;simp only at h1 h2 h3;rw [h1,h2,h3]
 ·rintro rfl;exact ⟨rfl,rfl,rfl⟩
end Go.AL
namespace Go.AL
open Go.RowKit
section
variable {P : Program} {C : Ctx} {ι : Pl} {T : Nat → Option AV} {F : Nat → Prop} {H : Nat → Option (List AV)} {a : Act} {w : World} {o : Oper}
theorem Ah {bad:Nat → Prop}{zs:List Value}(h:zs.all (·.oneCell') = true):∀ n,RdL w bad ι (List.replicate n (zs.map AV.v)).flatten (List.replicate n zs).flatten
 | 0 => by simp [RdL]
 | n + 1 => by
  rw [List.replicate_succ,List.replicate_succ,List.flatten_cons,List.flatten_cons]
  exact RdL.append (qO h) (Ah h n)
theorem Iy (gh:HG C ι F H w){t el:TypeId}{x:Operand}{id off n e:Nat}{cs:List AV}{zs:List Value}
  (ho : o.op = .call ⟨.builtin .clear,#[x],#[t]⟩) (hx : Rd w (aK C.X ι H) ι (.own id off n e) (a.eval x)) (hd : o.dst = none)
  (ht : mE P t = some el) (he : eW P el = some e) (hz : nL P el = some zs) (hze : zs.length = e)
  (hH : H id = some cs) (h0 : 0 < n) (hl : off + n * e ≤ cs.length) :
  Ef P C ι F H a w o (.tup []) (dJ H id (some (gM cs off (List.replicate n (zs.map AV.v)).flatten))) := by
 obtain ⟨i,z,h1,h2,h3,h4⟩ := n4 hz
 have hu := g6 ht
 have hsz := tE he h1
 simp only [Rd] at hx
 rcases hx with ⟨_,rfl,_⟩ | ⟨b,β,c,p1,p2,p3,p4⟩
 ·omega
 have hlen : ((List.replicate n (zs.map AV.v)).flatten).length = n * e := by
  rw [List.length_flatten]; simp [hze]
 obtain ⟨w',q1,q2,q3⟩ := A2 (P := P) gh hH p1 (off := off) (new := (List.replicate n (zs.map AV.v)).flatten) (by rw [hlen]; exact hl) (Ah h4 n)
 have hr : (Builtin.clear_ #[t] o.type #[a.eval x]).run P w = .ok (.tuple #[]) w' := by
  rw [p2]
  cases n with
  | zero => omega
  | succ n =>
   have hzc : (Builtin.zeroCells z.cells (n + 1)).toList = (List.replicate (n + 1) zs).flatten := by rw [lJ,h3]
   simp [Builtin.clear_,bX hu,zeroValue,typeInfo,h1,h2,hzc,q1]
 refine ⟨.value (.tuple #[]),.tuple #[],ι,w',?_,.inl ⟨rfl,?_⟩,q2,q3⟩
 ·simp [execOp,ho,resolve,invoke,builtin,hr]
 ·simp only [Rd]; exact ⟨[],rfl,by simp [RdV]⟩
end
section
variable {P : Program} {N : Nat} {Q : Exit → AS → Prop} {all : Array Oper} {rest : List Oper} {ts : List (Nat × AV)} {hs : List (Nat × Option (List AV))} {n : Nat} {z0 : Lo} {md : Md}
variable {d : Nat} {ty : TypeId} {pos : String} {af : Array Edge}
theorem Ib {t el id off m e:Nat}{x:Operand}{cs cs':List AV}{zs:List Value}[ht:SlT P t el] [he:SzT P el e] [hz:ZrT P el zs]
  (hx : ev (lk ts) x = some (.own id off m e)) (hze : zs.length = e) (h0 : 0 < m) (hH : aO hs id = some cs) (hl : off + m * e ≤ cs.length)
  (hcs : gM cs off (List.replicate m (zs.map AV.v)).flatten = cs') {md' : Md} [hmd : MdA md (rO x ++ [.inr id]) [.inr id] md'] (kk : RW P N all Q md' rest ⟨ts,(id,some cs') :: hs,n,z0⟩) :
  RW P N all Q md (⟨none,.call ⟨.builtin .clear,#[x],#[t]⟩,ty,pos,af,none⟩ :: rest) ⟨ts,hs,n,z0⟩ := by
 subst hcs
 exact zE (rs := rO x ++ [.inr id]) (ws := [(id, some (gM cs off (List.replicate m (zs.map AV.v)).flatten))]) (n' := n) (out := .tup []) rfl (fun _ h => by cases h) (Nat.le_refl n) (.inl rfl)
  (fun C ι F T H a w ag hF g gh => Dv (Iy gh rfl (bV g (ag.l.ev.trans hx)) rfl ht.pf he.pf hz.pf hze ((ag.r.h id (by simp)).trans hH) h0 hl)) (by
   show RW P N all Q (md.add (rO x ++ [.inr id]) [.inr id]) rest ⟨ts,(id,some (gM cs off (List.replicate m (zs.map AV.v)).flatten)) :: hs,n,z0⟩
   rw [hmd.pf]; exact kk)
end
end Go.AL
namespace Go.AL
section
variable {P : Program} {N : Nat} {Q : Exit → AS → Prop} {all : Array Oper} {rest : List Oper} {ts : List (Nat × AV)} {hs : List (Nat × Option (List AV))} {n : Nat} {z0 : Lo} {md : Md}
variable {d : Nat} {ty : TypeId} {pos : String} {af : Array Edge}
theorem vT (w:World) (t el:TypeId) (hu:P.underlying t = some (.slice el)) (a:Option Addr) (m c:Nat):(binOp .eql t (.slice a m c) (.slice none 0 0)).run P w = .ok (.bool a.isNone) w:=by
 have h0 : ∀ d : Nat, (Op.equalIn (d + 1) t (.slice a m c) (.slice none 0 0)).run P w = .ok a.isNone w := fun d => by
  cases a <;> simp [Op.equalIn,bX hu]
 have h := h0 9999
 simp only [binOp]
 simp [Op.equal,Op.maxDepth,h]
theorem zO {t t' el:TypeId}{x:Operand}{m:Nat}{cs:List AV}[ht:SlT P t el] (hx:ev (lk ts) x = some (.imm m cs)) (hN:Nat.blt d N = true)
  (kk : ∀ b : Bool,(b = true → m = 0) → RW P N all Q .txt rest ⟨(d,.v (.bool b)) :: ts,hs,n,z0⟩) : RW P N all Q .txt (⟨some d,.binOp .eql t x (.const (.slice none 0 0)) t',ty,pos,af,none⟩ :: rest) ⟨ts,hs,n,z0⟩ := by
 rintro C a w hCN ⟨h0,ι,g,gh⟩
 refine wpList_plain rfl (fun K hK => ?_)
 have h1 := bV g hx
 simp only [Rd] at h1
 obtain ⟨a',c,h2,h3⟩ := h1
 have hu := g6 ht.pf
 have hb : a'.isNone = true → m = 0 := fun hn => by
  rcases h3 with h3 | ⟨b,o,_,rfl,_⟩
  ·exact h3
  ·cases hn
 have hg : (eqGuard .eql t x (.const (.slice none 0 0)) (.slice a' m c) (.slice none 0 0)).run P w = .ok () w := by simp [eqGuard]
 have hr : (execOp a.eval ⟨some d, .binOp .eql t x (.const (.slice none 0 0)) t', ty, pos, af, none⟩).run P w = .ok (.value (.bool a'.isNone)) w := by
  have e2 : a.eval (.const (.slice none 0 0)) = .slice none 0 0 := rfl
  simp only [execOp,h2,e2,Sem.run_bind,hg,Result.andThen_ok,vT w t el hu,Sem.run_pure]
 simp only [Oper.wp,hr,Oper.upon]
 refine hK _ _ (kk a'.isNone hb C _ _ hCN ⟨h0,ι,?_,gh⟩)
 show TG C ι (lk ((d,AV.v (.bool a'.isNone)) :: ts)) _ _ _
 rw [jM]
 exact g.put (by have := dC hN;omega) (by simp [Rd])
end
theorem Df {α:Type}{f:α → List AV}{e:Nat}[h:FlT f e] {hs:List (Nat × Option (List AV))}{xs:List α}{i k n:Nat}(hH:aO hs i = some (flat f xs)) (hn:n = xs.length - k):sCells (aO hs) e (uR (.own i (0 + k * e) n e)) = some (n,flat f (xs.drop k)):=by
 show ((aO hs i).bind fun cs => if n * e ≤ (cs.drop (0 + k * e)).length then some (n,(cs.drop (0 + k * e)).take (n * e)) else none) = _
 rw [hH,Option.bind_some,Nat.zero_add]
 have h1 : (flat f xs).length = xs.length * e := aI f xs
 have h3 : (flat f xs).drop (k * e) = flat f (xs.drop k) := by
  have h4 : flat f xs = flat f (xs.take k) ++ flat f (xs.drop k) := by rw [cH,List.take_append_drop]
  have h5 : (flat f (xs.take k)).length = (xs.take k).length * e := aI f _
  by_cases hk : k ≤ xs.length
  ·rw [h4,← show (flat f (xs.take k)).length = k * e from by rw [h5,List.length_take]; congr 1;omega,List.drop_left]
  ·rw [List.drop_of_length_le (by rw [h1]; exact Nat.mul_le_mul_right _ (by omega)),List.drop_of_length_le (by omega)]; rfl
 rw [h3]
 have h2 : (flat f (xs.drop k)).length = (xs.length - k) * e := by rw [aI f (e := e),List.length_drop]
 rw [h2,hn,if_pos (Nat.le_refl _),List.take_of_length_le (by rw [h2]; exact Nat.le_refl _)]
theorem p9 {T:Nat → Option AV}{x:Operand}{dd:Nat}{k:IntKind}{m:Int}{h:Nat}(hx:ev T x = some (.v (.int k m))) (e:m = (h:Int)):jS T (some x) dd = some h:=by
 simp only [jS,hx]; rw [if_pos (by omega)]; congr 1;omega
structure Tg where
 id : Int
 uq : Bool
 deriving Inhabited,DecidableEq
structure Cl where
 val : Int
 alive : Bool
 next : Int
 stk : List Tg
 deriving Inhabited,DecidableEq
structure Pt where
 cell : Int
 tag : Int
 deriving Inhabited,DecidableEq
structure Sl where
 set : Bool
 num : Int
 ptr : Pt
 deriving Inhabited,DecidableEq
def b6 (t : Tg) : List AV := [iv t.id,bv t.uq]
def bE (c : Cl) : List AV := [iv c.val,bv c.alive,iv c.next,sl b6 c.stk]
def cT (s : Sl) : List AV := [bv s.set,iv s.num,iv s.ptr.cell,iv s.ptr.tag]
instance : FlT b6 2:=⟨fun _ => rfl⟩
instance : FlT bE 4:=⟨fun _ => rfl⟩
instance : FlT cT 4:=⟨fun _ => rfl⟩
instance : FE b6 (fun t => [iv t.id,bv t.uq]):=⟨fun _ => rfl⟩
instance : FE bE (fun c => [iv c.val,bv c.alive,iv c.next,sl b6 c.stk]):=⟨fun _ => rfl⟩
instance : FE cT (fun s => [bv s.set,iv s.num,iv s.ptr.cell,iv s.ptr.tag]):=⟨fun _ => rfl⟩
instance (t : Tg) : Pur (b6 t):=⟨rfl⟩
instance (c : Cl) : Pur (bE c):=⟨by show (true && (true && (true && ((sl b6 c.stk).pur && true)))) = true;rw [a9]; rfl⟩
instance (s : Sl) : Pur (cT s):=⟨rfl⟩
abbrev OZ (t : Tg) : AV := .agg [iv t.id,bv t.uq]
abbrev O2 (c : Cl) : AV := .agg [iv c.val,bv c.alive,iv c.next,sl b6 c.stk]
abbrev mK (p : Pt) : AV := .agg [iv p.cell,iv p.tag]
abbrev HD (s : Sl) : AV := .agg [bv s.set,iv s.num,iv s.ptr.cell,iv s.ptr.tag]
structure OkC (c : Cl) : Prop where
 v : 0 ≤ c.val ∧ c.val ≤ 9
 n : 1 ≤ c.next ∧ c.next ≤ 1000
 l : 1 ≤ c.stk.length ∧ c.stk.length ≤ 200
 u : c.stk[0]!.uq = true
 i : ∀ t ∈ c.stk,0 ≤ t.id ∧ t.id < c.next
 d : (c.stk.map (·.id)).Nodup
structure OkM (m : List Cl) : Prop where
 l : m.length ≤ 200
 c : ∀ c ∈ m,OkC c
def b7 (stk : List Tg) (id : Int) : Int := match stk.findIdx? (fun t => decide (t.id = id)) with | some k => k | none => -1
theorem dX (stk:List Tg) (id:Int):-1 ≤ b7 stk id ∧ b7 stk id < stk.length:=by
 unfold b7
 split
 ·rename_i k h
  obtain ⟨h1,_⟩ := List.findIdx?_eq_some_iff_getElem.1 h
  omega
 ·omega
theorem JG {stk:List Tg}{id:Int}(h:0 ≤ b7 stk id):stk[(b7 stk id).toNat]!.id = id:=by
 unfold b7 at h ⊢
 split
 ·rename_i k hk
  obtain ⟨h1,h2,_⟩ := List.findIdx?_eq_some_iff_getElem.1 hk
  rw [Int.toNat_natCast,aS _ _ h1]
  simpa using h2
 ·rename_i hk;rw [hk] at h;dsimp only at h;omega
theorem pX {stk:List Tg}{id:Int}:b7 stk id < 0 ↔ ∀ t ∈ stk,t.id ≠ id:=by
 unfold b7
 split
 ·rename_i k hk
  obtain ⟨h1,h2,_⟩ := List.findIdx?_eq_some_iff_getElem.1 hk
  refine ⟨fun h => by omega,fun h => ?_⟩
  exact absurd (by simpa using h2) (h _ (List.getElem_mem h1))
 ·rename_i hk
  rw [List.findIdx?_eq_none_iff] at hk
  exact ⟨fun _ t ht => by simpa using hk t ht,fun _ => by omega⟩
def fZ (stk : List Tg) (k : Nat) (wr : Bool) : List Tg := if wr = true then stk.take (k + 1) else stk.take (k + 1) ++ (stk.drop (k + 1)).filter (fun t => !t.uq)
def a7 (m : List Cl) (x : Pt) (wr : Bool) : Int :=
 if ¬ (0 ≤ x.cell ∧ x.cell < m.length) then 4
 else if m[x.cell.toNat]!.alive = false then 1
 else if b7 m[x.cell.toNat]!.stk x.tag < 0 then 2
 else if wr = true ∧ m[x.cell.toNat]!.stk[(b7 m[x.cell.toNat]!.stk x.tag).toNat]!.uq = false then 3
 else 0
def sO (c : Cl) (x : Pt) (wr : Bool) : Cl := { c with stk := fZ c.stk (b7 c.stk x.tag).toNat wr }
def dI (m : List Cl) (x : Pt) (wr : Bool) : List Cl := if a7 m x wr = 0 then m.set x.cell.toNat (sO m[x.cell.toNat]! x wr) else m
def oV (m : List Cl) (x : Pt) : Int := if a7 m x false = 0 then m[x.cell.toNat]!.val else 0
def vH (m : List Cl) (x : Pt) (v : Int) : Int := if 0 ≤ v ∧ v ≤ 9 then a7 m x true else 4
def zY (m : List Cl) (x : Pt) (v : Int) : List Cl := if vH m x v = 0 then m.set x.cell.toNat { sO m[x.cell.toNat]! x true with val := v } else m
def k9 (m : List Cl) (x : Pt) : List Cl := if a7 m x true = 0 then m.set x.cell.toNat { sO m[x.cell.toNat]! x true with alive := false } else m
def EE (c : Cl) : Prop := c.stk.length = 200 ∨ c.next = 1000
instance (c : Cl) : Decidable (EE c) := by unfold EE;infer_instance
def lV (m : List Cl) (x : Pt) (u : Bool) : Int := if a7 m x u = 0 then (if EE (sO m[x.cell.toNat]! x u) then 4 else 0) else a7 m x u
def psh (c : Cl) (u : Bool) : Cl := { c with stk := c.stk ++ [⟨c.next,u⟩],next := c.next + 1 }
def nG (m : List Cl) (x : Pt) (u : Bool) : List Cl := if lV m x u = 0 then m.set x.cell.toNat (psh (sO m[x.cell.toNat]! x u) u) else m
def rF (m : List Cl) (x : Pt) (u : Bool) : Pt := if lV m x u = 0 then ⟨x.cell,m[x.cell.toNat]!.next⟩ else ⟨0,0⟩
def uN (v : Int) : Cl := ⟨v,true,1,[⟨0,true⟩]⟩
theorem tchS_sub {stk:List Tg}{k:Nat}{wr:Bool}:(fZ stk k wr).Sublist stk:=by
 unfold fZ
 split
 ·exact List.take_sublist _ _
 ·have h := List.Sublist.append (List.Sublist.refl (stk.take (k + 1))) (List.filter_sublist (l := stk.drop (k + 1)) (p := fun t => !t.uq))
  rwa [List.take_append_drop] at h
theorem Ez {stk:List Tg}{k:Nat}{wr:Bool}(h:0 < stk.length):(fZ stk k wr)[0]! = stk[0]! ∧ 0 < (fZ stk k wr).length:=by
 cases stk with
 | nil => simp at h
 | cons a l =>
  unfold fZ
  split <;> simp
theorem OkC.tch {c:Cl}(h:OkC c) (x:Pt) (wr:Bool):OkC (sO c x wr):=by
 have hs := tchS_sub (stk := c.stk) (k := (b7 c.stk x.tag).toNat) (wr := wr)
 have hh := Ez (k := (b7 c.stk x.tag).toNat) (wr := wr) (stk := c.stk) (by have := h.l;omega)
 refine ⟨h.v,h.n,⟨hh.2,Nat.le_trans hs.length_le h.l.2⟩,?_,fun t ht => h.i t (hs.subset ht),(hs.map _).nodup h.d⟩
 show (fZ c.stk (b7 c.stk x.tag).toNat wr)[0]!.uq = true
 rw [hh.1]; exact h.u
theorem OkC.psh {c:Cl}(h:OkC c) (u:Bool) (hf:¬ EE c):OkC (psh c u):=by
 have hl := h.l
 have hn := h.n
 unfold EE at hf
 refine ⟨h.v,by show 1 ≤ c.next + 1 ∧ c.next + 1 ≤ 1000;omega,by show 1 ≤ (c.stk ++ [_]).length ∧ (c.stk ++ [_]).length ≤ 200;rw [List.length_append,List.length_singleton]; omega,?_,fun t ht => ?_,?_⟩
 ·show (c.stk ++ [_])[0]!.uq = true
  have h1 := h.u
  rw [aS _ _ (by omega)] at h1
  rw [aS _ _ (by rw [List.length_append]; omega),List.getElem_append_left (by omega)]; exact h1
 ·rcases List.mem_append.1 ht with ht | ht
  ·have := h.i t ht;show 0 ≤ t.id ∧ t.id < c.next + 1;omega
  ·rw [List.mem_singleton] at ht;subst ht;show 0 ≤ c.next ∧ c.next < c.next + 1;omega
 ·show ((c.stk ++ [_]).map _).Nodup
  rw [List.map_append,List.nodup_append]
  refine ⟨h.d,by simp,fun a ha b hb => ?_⟩
  simp only [List.map_cons,List.map_nil,List.mem_singleton] at hb
  obtain ⟨t,ht,rfl⟩ := List.mem_map.1 ha
  have := h.i t ht
  omega
theorem OkC.nw {v:Int}(h:0 ≤ v ∧ v ≤ 9):OkC (uN v) := ⟨h,⟨by show (1:Int) ≤ 1;decide,by show (1:Int) ≤ 1000;decide⟩,⟨by show 1 ≤ 1;decide,by show 1 ≤ 200;decide⟩,rfl,by simp [uN],by simp [uN]⟩
theorem OkM.set {m:List Cl}(h:OkM m){k:Nat}{c:Cl}(hc:OkC c):OkM (m.set k c) :=
 ⟨by rw [List.length_set]; exact h.l,fun x hx => (List.mem_or_eq_of_mem_set hx).elim (h.c x) (fun e => e ▸ hc)⟩
theorem OkM.at {m:List Cl}(h:OkM m){k:Nat}(hk:k < m.length):OkC m[k]! := h.c _ (aN _ _ hk)
theorem dB {m:List Cl}{x:Pt}{wr:Bool}(h:a7 m x wr ≠ 4):0 ≤ x.cell ∧ x.cell < m.length ∧ x.cell.toNat < m.length:=by
 unfold a7 at h
 split at h
 ·exact absurd rfl h
 ·omega
theorem wP {m:List Cl}{x:Pt}{wr:Bool}(h:a7 m x wr = 0):0 ≤ x.cell ∧ x.cell < m.length ∧ x.cell.toNat < m.length := dB (by rw [h]; decide)
theorem OkM.tch {m:List Cl}(h:OkM m) (x:Pt) (wr:Bool):OkM (dI m x wr):=by
 unfold dI;split
 ·rename_i hk;exact h.set ((h.at (wP hk).2.2).tch x wr)
 ·exact h
theorem OkM.wr {m:List Cl}(h:OkM m) (x:Pt) (v:Int):OkM (zY m x v):=by
 unfold zY
 by_cases hk : vH m x v = 0
 ·rw [if_pos hk]
  unfold vH at hk
  by_cases hv : 0 ≤ v ∧ v ≤ 9
  ·rw [if_pos hv] at hk
   have h1 := (h.at (wP hk).2.2).tch x true
   exact h.set ⟨hv,h1.n,h1.l,h1.u,h1.i,h1.d⟩
  ·rw [if_neg hv] at hk;cases hk
 ·rw [if_neg hk]; exact h
theorem OkM.fr {m:List Cl}(h:OkM m) (x:Pt):OkM (k9 m x):=by
 unfold k9;split
 ·rename_i hk
  have h1 := (h.at (wP hk).2.2).tch x true
  exact h.set ⟨h1.v,h1.n,h1.l,h1.u,h1.i,h1.d⟩
 ·exact h
theorem OkM.ln {m:List Cl}(h:OkM m) (x:Pt) (u:Bool):OkM (nG m x u):=by
 unfold nG
 by_cases hk : lV m x u = 0
 ·rw [if_pos hk]
  unfold lV at hk
  by_cases h0 : a7 m x u = 0
  ·rw [if_pos h0] at hk
   by_cases hf : EE (sO m[x.cell.toNat]! x u)
   ·rw [if_pos hf] at hk;cases hk
   ·exact h.set (((h.at (wP h0).2.2).tch x u).psh u hf)
  ·rw [if_neg h0] at hk;exact absurd hk h0
 ·rw [if_neg hk]; exact h
theorem OkM.nw {m:List Cl}(h:OkM m){v:Int}(hv:0 ≤ v ∧ v ≤ 9) (hl:m.length < 200):OkM (m ++ [uN v]) :=
 ⟨by rw [List.length_append,List.length_singleton]; omega,fun c hc => (List.mem_append.1 hc).elim (h.c c) (fun h => by rw [List.mem_singleton.1 h]; exact OkC.nw hv)⟩
def hZ (pts : List Pnt) (a : Nat) (cs : List Int) : Nat × List Int :=
 if pts[a]!.next.length = 2 then
  match cs with
  | [] => ((pts[a]!.next[1]!).toNat,[])
  | c :: cs => ((pts[a]!.next[(c % 2).toNat]!).toNat,cs)
 else ((pts[a]!.next[0]!).toNat,cs)
def gF (pts : List Pnt) : Nat → Nat → List Int → List Nat × Bool
 | 0,a,_ => if pts[a]!.op = 11 then ([a],true) else ([],false)
 | n + 1,a,cs => if pts[a]!.op = 11 then ([a],true) else (a :: (gF pts n (hZ pts a cs).1 (hZ pts a cs).2).1,(gF pts n (hZ pts a cs).1 (hZ pts a cs).2).2)
structure Mc where
 slots : List Sl
 cells : List Cl
 read : List Int
 deriving Inhabited
def mL : Sl := ⟨false,0,⟨0,0⟩⟩
def eR (k : Int) : Int := if k = 1 then 3 else 4
def o6 (k : Int) : Int := if k = 0 then -1 else eR k
def bT (ts : List Int) (s : Mc) (v : Nat) (x : Sl) : Mc × Int :=
 if ts[v]! = 2 ∧ s.slots[v]!.set = true then (⟨s.slots.set v x,k9 s.cells s.slots[v]!.ptr,s.read⟩,o6 (a7 s.cells s.slots[v]!.ptr true))
 else (⟨s.slots.set v x,s.cells,s.read⟩,-1)
def cG (ts : List Int) (s : Mc) (x : Pnt) : Bool := (List.range ts.length).any fun v => decide (a6 ts x v ≠ 0) && !s.slots[v]!.set
def cF (ts : List Int) : Nat → Nat → Mc → Mc × Int
 | 0,_,s => (s,0)
 | n + 1, v, s => if ts[v]! = 2 ∧ s.slots[v]!.set = true then
   (if a7 s.cells s.slots[v]!.ptr true = 0 then cF ts n (v + 1) ⟨s.slots.set v mL,k9 s.cells s.slots[v]!.ptr,s.read⟩ else (⟨s.slots,k9 s.cells s.slots[v]!.ptr,s.read⟩,eR (a7 s.cells s.slots[v]!.ptr true)))
  else cF ts n (v + 1) s
def c7 (ts : List Int) (s : Mc) (x : Pnt) : Mc × Int :=
 if x.op = 1 then bT ts s x.x.toNat ⟨true,x.n,⟨0,0⟩⟩
 else if x.op = 2 then (if s.cells.length = 200 then (s,1) else bT ts ⟨s.slots,s.cells ++ [uN x.n],s.read⟩ x.x.toNat ⟨true,0,⟨s.cells.length,0⟩⟩)
 else if x.op = 3 then bT ts (if zA ts[x.y.toNat]! = true then ⟨s.slots.set x.y.toNat mL,s.cells,s.read⟩ else s) x.x.toNat s.slots[x.y.toNat]!
 else if x.op = 4 ∨ x.op = 5 then
  (if lV s.cells s.slots[x.y.toNat]!.ptr (decide (x.op = 5)) = 0 then bT ts ⟨s.slots, nG s.cells s.slots[x.y.toNat]!.ptr (decide (x.op = 5)), s.read⟩ x.x.toNat ⟨true, 0, rF s.cells s.slots[x.y.toNat]!.ptr (decide (x.op = 5))⟩
   else (s,eR (lV s.cells s.slots[x.y.toNat]!.ptr (decide (x.op = 5)))))
 else if x.op = 6 then
  (if a7 s.cells s.slots[x.y.toNat]!.ptr false = 0 then bT ts ⟨s.slots, dI s.cells s.slots[x.y.toNat]!.ptr false, s.read ++ [oV s.cells s.slots[x.y.toNat]!.ptr]⟩ x.x.toNat ⟨true, oV s.cells s.slots[x.y.toNat]!.ptr, ⟨0, 0⟩⟩
   else (s,eR (a7 s.cells s.slots[x.y.toNat]!.ptr false)))
 else if x.op = 7 then (⟨s.slots,zY s.cells s.slots[x.x.toNat]!.ptr s.slots[x.y.toNat]!.num,s.read⟩,o6 (vH s.cells s.slots[x.x.toNat]!.ptr s.slots[x.y.toNat]!.num))
 else if x.op = 8 then (⟨s.slots.set x.x.toNat mL,k9 s.cells s.slots[x.x.toNat]!.ptr,s.read⟩,o6 (a7 s.cells s.slots[x.x.toNat]!.ptr true))
 else if x.op = 11 then cF ts ts.length 0 s
 else (s,-1)
def nB (ts : List Int) (pts : List Pnt) : List Nat → Mc → Nat → Mc × Int × Nat
 | [],s,last => (s,1,last)
 | a :: l, s, _ => if cG ts s pts[a]! = true then (s, 2, a)
  else if (c7 ts s pts[a]!).2 = -1 then nB ts pts l (c7 ts s pts[a]!).1 a
  else ((c7 ts s pts[a]!).1,(c7 ts s pts[a]!).2,a)
def mc0 (nt : Nat) : Mc := ⟨List.replicate nt mL,[],[]⟩
def jE (ts : List Int) (pts : List Pnt) (cs : List Int) (most : Nat) : Mc × Int × Nat := nB ts pts (gF pts most 0 cs).1 (mc0 ts.length) 0
structure OkS (nt : Nat) (s : Mc) : Prop where
 m : OkM s.cells
 l : s.slots.length = nt
theorem OkS.put {ts:List Int}{nt:Nat}{s:Mc}(h:OkS nt s) (v:Nat) (x:Sl):OkS nt (bT ts s v x).1:=by
 unfold bT;split
 ·exact ⟨h.m.fr _,by show (s.slots.set v x).length = nt;rw [List.length_set]; exact h.l⟩
 ·exact ⟨h.m,by show (s.slots.set v x).length = nt;rw [List.length_set]; exact h.l⟩
theorem OkS.fin {ts:List Int}{nt:Nat}:∀ n v (s:Mc),OkS nt s → OkS nt (cF ts n v s).1
 | 0,_,_,h => h
 | n + 1, v, s, h => by
  unfold cF;split
  ·split
   ·exact OkS.fin n _ _ ⟨h.m.fr _,by show (s.slots.set v mL).length = nt;rw [List.length_set]; exact h.l⟩
   ·exact ⟨h.m.fr _,h.l⟩
  ·exact OkS.fin n _ _ h
structure PtN (x : Pnt) : Prop where
 n : x.op = 2 → 0 ≤ x.n ∧ x.n ≤ 9
theorem OkS.do {ts:List Int}{nt:Nat}{s:Mc}(h:OkS nt s){x:Pnt}(hx:PtN x):OkS nt (c7 ts s x).1:=by
 have hl : ∀ (v : Nat) (y : Sl),(s.slots.set v y).length = nt := fun v y => by rw [List.length_set]; exact h.l
 unfold c7
 split
 ·exact h.put _ _
 split
 ·rename_i h2
  split
  ·exact h
  ·rename_i h3
   refine OkS.put ?_ _ _
   exact ⟨h.m.nw (hx.n h2) (by have := h.m.l;omega),h.l⟩
 split
 ·split
  ·refine OkS.put ?_ _ _
   exact ⟨h.m,hl _ _⟩
  ·exact h.put _ _
 split
 ·split
  ·refine OkS.put ?_ _ _
   exact ⟨h.m.ln _ _,h.l⟩
  ·exact h
 split
 ·split
  ·refine OkS.put ?_ _ _
   exact ⟨h.m.tch _ _,h.l⟩
  ·exact h
 split
 ·exact ⟨h.m.wr _ _,h.l⟩
 split
 ·exact ⟨h.m.fr _,hl _ _⟩
 split
 ·exact OkS.fin _ _ _ h
 ·exact h
theorem OkS.mc0 (nt:Nat):OkS nt (mc0 nt) := ⟨⟨by simp [Go.AL.mc0],by simp [Go.AL.mc0]⟩,by simp [Go.AL.mc0]⟩
theorem OkS.run {ts:List Int}{pts:List Pnt}{nt:Nat}(hp:∀ a:Nat,PtN pts[a]!):∀ (l:List Nat) (s:Mc) (last:Nat),OkS nt s → OkS nt (nB ts pts l s last).1
 | [],_,_,h => h
 | a :: l, s, _, h => by
  unfold nB;split
  ·exact h
  ·split
   ·exact OkS.run hp l _ _ (h.do (hp a))
   ·exact h.do (hp a)
theorem K5 (k:Int):eR k = 3 ∨ eR k = 4 := by unfold eR;split;exact .inl rfl;exact .inr rfl
theorem yH (ts:List Int):∀ n v (s:Mc),(cF ts n v s).2 = 0 ∨ (cF ts n v s).2 = 3 ∨ (cF ts n v s).2 = 4
 | 0,_,_ => .inl rfl
 | n + 1, v, s => by
  unfold cF;split
  ·split
   ·exact yH ts n _ _
   ·exact .inr (K5 _)
  ·exact yH ts n _ _
theorem GC {ts:List Int}{s:Mc}{x:Pnt}(h:x.op = 11):c7 ts s x = cF ts ts.length 0 s:=by
 unfold c7;simp [h]
theorem sC (m:List Cl) (x:Pt) (b:Bool):(dI m x b).length = m.length := by unfold dI;split <;> simp
structure PtA (ts : List Int) (x : Pnt) : Prop where
 n : x.op = 1 ∨ x.op = 2 → 0 ≤ x.n ∧ x.n ≤ 9
 t1 : x.op = 1 → ts[x.x.toNat]! = 1
 t2 : x.op = 2 ∨ x.op = 8 → ts[x.x.toNat]! = 2
 t3 : x.op = 3 → ts[x.x.toNat]! = ts[x.y.toNat]! ∧ x.x ≠ x.y
 t4 : x.op = 4 → ts[x.x.toNat]! = 3 ∧ x.x ≠ x.y ∧ 2 ≤ ts[x.y.toNat]!
 t5 : x.op = 5 → ts[x.x.toNat]! = 4 ∧ x.x ≠ x.y ∧ (ts[x.y.toNat]! = 2 ∨ ts[x.y.toNat]! = 4)
 t6 : x.op = 6 → ts[x.x.toNat]! = 1 ∧ 2 ≤ ts[x.y.toNat]!
 t7 : x.op = 7 → (ts[x.x.toNat]! = 2 ∨ ts[x.x.toNat]! = 4) ∧ ts[x.y.toNat]! = 1
theorem PtA.no {ts:List Int}{x:Pnt}(h:9 ≤ x.op):PtA ts x := ⟨fun e => by omega,fun e => by omega,fun e => by omega,fun e => by omega,fun e => by omega,fun e => by omega,fun e => by omega,fun e => by omega⟩
theorem Cz {ts:List Int}{s:Stmt}(h:dA ts s = true):s.op ≤ 8:=by
 unfold dA at h
 dsimp only at h
 apply Classical.byContradiction
 intro e
 rw [if_neg (by omega),if_neg (by omega)] at h
 split at h
 ·cases h
 ·rw [if_neg (by omega),if_neg (by omega),if_neg (by omega),if_neg (by omega),if_neg (by omega),if_neg (by omega)] at h;cases h
theorem F4 {ts:List Int}(s:Stmt) (h:dA ts s = true):PtA ts ⟨s.op,s.x,s.y,s.n,[]⟩:=by
 have g : ∀ v,0 < eV ts v → eV ts v = ts[v.toNat]! := fun v => iV
 have gx := g s.x
 have gy := g s.y
 unfold dA at h
 dsimp only at h
 constructor <;> dsimp only <;> intro e
 case n => rcases e with e|e <;> simp [e] at h <;> omega
 case t1 => simp [e] at h;rw [← gx (by omega)]; omega
 case t2 => rcases e with e|e <;> simp [e] at h <;> (rw [← gx (by omega)]; omega)
 case t3 => simp [e] at h;rw [← gx (by omega),← gy (by omega)]; exact ⟨h.2.1,h.2.2.2⟩
 case t4 => simp [e] at h;rw [← gx (by omega),← gy (by omega)]; exact ⟨h.2.1,h.2.2.2,h.2.2.1⟩
 case t5 => simp [e] at h;rw [← gx (by omega),← gy (by omega)]; exact ⟨h.2.1,h.2.2.2,h.2.2.1⟩
 case t6 => simp [e] at h;rw [← gx (by omega),← gy (by omega)]; exact ⟨h.2.1,h.2.2⟩
 case t7 => simp [e] at h;rw [← gx (by omega),← gy (by omega)]; exact ⟨h.2.1,h.2.2⟩
mutual
theorem Od {ts:List Int}:∀ (s:Stmt) (d b:Nat),rR ts d s = true → ∀ x ∈ uH b s,PtA ts x ∧ x.op ≠ 11 ∧ 0 < x.next.length
 | .mk op x y n th el, d, b, h => by
  simp only [rR] at h
  split at h
  ·rename_i hop
   simp only [Bool.and_eq_true] at h
   have hs := F4 _ h.2
   have ho := Cz h.2
   simp only [Stmt.op,Stmt.x,Stmt.y,Stmt.n] at hs ho
   simp only [uH,hop.1,hop.2,if_false,List.mem_singleton]
   rintro z rfl
   exact ⟨⟨hs.n,hs.t1,hs.t2,hs.t3,hs.t4,hs.t5,hs.t6,hs.t7⟩,by dsimp only;omega,by simp⟩
  ·rename_i hop
   cases d with
   | zero => cases h
   | succ d =>
    simp only [Bool.and_eq_true,decide_eq_true_eq] at h
    obtain ⟨⟨⟨_,_⟩,h1⟩,h2⟩ := h
    by_cases h9 : op = 9
    ·subst h9
     simp only [uH,if_true,List.mem_append,List.mem_singleton]
     rintro z (((rfl|hz)|rfl)|hz)
     ·exact ⟨PtA.no (by simp),by simp,by simp⟩
     ·exact tB th d (b + 1) h1 z hz
     ·exact ⟨PtA.no (by simp),by simp,by simp⟩
     ·exact tB el d (b + 2 + cR th) h2 z hz
    ·have h10 : op = 10 := by omega
     subst h10
     simp only [uH,if_true,show ((10 : Int) = 9) = False by simp,if_false,List.mem_append,List.mem_singleton]
     rintro z ((rfl|hz)|rfl)
     ·exact ⟨PtA.no (by simp),by simp,by simp⟩
     ·exact tB th d (b + 1) h1 z hz
     ·exact ⟨PtA.no (by simp),by simp,by simp⟩
theorem tB {ts:List Int}:∀ (l:List Stmt) (d b:Nat),okL ts d l = true → ∀ x ∈ fD b l,PtA ts x ∧ x.op ≠ 11 ∧ 0 < x.next.length
 | [],d,b,h => by simp [fD]
 | s :: l, d, b, h => by
  simp only [okL,Bool.and_eq_true] at h
  simp only [fD,List.mem_append]
  rintro x (hx|hx)
  ·exact Od s d b h.1 x hx
  ·exact tB l d (b + n6 s) h.2 x hx
end
structure WA (ts : List Int) (pts : List Pnt) : Prop where
 a : ∀ i,i < pts.length → PtA ts pts[i]!
 e : ∀ i,i < pts.length → (pts[i]!.op = 11 ↔ i + 1 = pts.length)
 n : ∀ i,i < pts.length → pts[i]!.op ≠ 11 → 0 < pts[i]!.next.length
theorem WA.of_valid {p:Prg}(h:bK p = true):WA p.types (aC p):=by
 unfold bK at h
 simp only [Bool.and_eq_true,decide_eq_true_eq] at h
 obtain ⟨⟨_,hl⟩,_⟩ := h
 have hlen := lH p
 have hpl := bJ p.body 0
 have lo : ∀ i, i + 1 < (aC p).length → (aC p)[i]! ∈ fD 0 p.body := fun i hi => by
  have h1 : i < (fD 0 p.body).length := by omega
  unfold aC
  rw [aS _ _ (by rw [List.length_append]; omega),List.getElem_append_left h1]
  exact List.getElem_mem h1
 have hi : ∀ i, i + 1 = (aC p).length → (aC p)[i]! = ⟨11, 0, 0, 0, []⟩ := fun i hi => by
  have h1 : i = (fD 0 p.body).length := by omega
  unfold aC
  rw [aS _ _ (by rw [List.length_append,List.length_singleton]; omega)]
  simp [h1]
 refine ⟨fun i h => ?_,fun i h => ⟨fun e => ?_,fun e => by rw [hi i e]⟩,fun i h ne => ?_⟩
 ·by_cases q : i + 1 < (aC p).length
  ·exact (tB p.body 4 0 hl _ (lo i q)).1
  ·rw [hi i (by omega)]; exact PtA.no (by simp)
 ·by_cases q : i + 1 < (aC p).length
  ·exact absurd e (tB p.body 4 0 hl _ (lo i q)).2.1
  ·omega
 ·by_cases q : i + 1 < (aC p).length
  ·exact (tB p.body 4 0 hl _ (lo i q)).2.2
  ·exact absurd (by rw [hi i (by omega)]) ne
theorem Jz {ts:List Int}{s:Mc}{x:Pnt}(h:cG ts s x = false){v:Nat}(hv:v < ts.length) (hu:a6 ts x v ≠ 0):s.slots[v]!.set = true:=by
 unfold cG at h
 rw [List.any_eq_false] at h
 have h1 := h v (List.mem_range.2 hv)
 rw [decide_eq_true hu,Bool.true_and] at h1
 simpa using h1
section
variable {ts : List Int} {pts : List Pnt}
theorem HU (w:WG ts pts) (A:WA ts pts){a:Nat}(ha:a < pts.length) (h11:pts[a]!.op ≠ 11) (cs:List Int):cE pts a (hZ pts a cs).1:=by
 have key : ∀ j : Nat, j < pts[a]!.next.length → cE pts a (pts[a]!.next[j]!).toNat := fun j hj => by
  have hm := aN pts[a]!.next j hj
  refine ⟨ha,?_⟩
  rw [show (((pts[a]!.next[j]!).toNat : Nat) : Int) = pts[a]!.next[j]! by have := (w.nx a ha _ hm).1;omega]
  exact hm
 have h0 := A.n a ha h11
 unfold hZ
 split
 ·rename_i h2
  split
  ·exact key 1 (by omega)
  ·rename_i c cs
   exact key _ (by omega)
 ·exact key 0 h0
end
section
variable {ts : List Int} {pts : List Pnt}
theorem zH {s:Mc}{x:Pnt}(h:cG ts s x = true):∃ v,v < ts.length ∧ a6 ts x v ≠ 0 ∧ s.slots[v]!.set = false:=by
 unfold cG at h
 obtain ⟨v,hv,h2⟩ := List.any_eq_true.1 h
 rw [Bool.and_eq_true,decide_eq_true_eq] at h2
 exact ⟨v,List.mem_range.1 hv,h2.1,by simpa using h2.2⟩
end
theorem vF {m:List Cl}{x:Pt}{u:Bool}(h:lV m x u = 0):a7 m x u = 0:=by
 unfold lV at h
 by_cases h0 : a7 m x u = 0
 ·exact h0
 ·rw [if_neg h0] at h;exact h
theorem s9 (ts:List Int):∀ n v (s:Mc),(cF ts n v s).1.read = s.read
 | 0,_,_ => rfl
 | n + 1, v, s => by
  unfold cF;split
  ·split
   ·exact s9 ts n _ _
   ·rfl
  ·exact s9 ts n _ _
theorem kG (ts:List Int) (s:Mc) (v:Nat) (x:Sl):(bT ts s v x).1.read = s.read := by unfold bT;split <;> rfl
structure Co where
 val : Int
 alive : Bool
 next : Int
 av : AV
instance : Inhabited Co:=⟨⟨0,false,0,.imm 0 []⟩⟩
def dZ (c : Co) : List AV := [iv c.val,bv c.alive,iv c.next,c.av]
instance : FlT dZ 4:=⟨fun _ => rfl⟩
instance : FE dZ (fun c => [iv c.val,bv c.alive,iv c.next,c.av]):=⟨fun _ => rfl⟩
def qS (c : Cl) : Co := ⟨c.val,c.alive,c.next,sl b6 c.stk⟩
def cS (m : List Cl) (j : Nat) (X : AV) : List Co := (m.map qS).set j { qS m[j]! with av := X }
theorem kF (m:List Cl):flat dZ (m.map qS) = flat bE m:=by
 unfold flat;rw [List.flatMap_map]; rfl
theorem cP {m:List Cl}{j:Nat}{X:AV}:(cS m j X).length = m.length := by unfold cS;rw [List.length_set,List.length_map]
theorem gJ {m:List Cl}{j:Nat}{X:AV}(h:j < m.length):(cS m j X)[j]! = ⟨m[j]!.val,m[j]!.alive,m[j]!.next,X⟩:=by
 unfold cS
 rw [aS _ _ (by rw [List.length_set,List.length_map]; exact h),List.getElem_set_self]; rfl
theorem iS {m:List Cl}{j:Nat}{X:AV}(h:j < m.length):flat dZ (cS m j X) = flat bE (m.take j) ++ ([iv m[j]!.val,bv m[j]!.alive,iv m[j]!.next] ++ X :: flat bE (m.drop (j + 1))):=by
 unfold cS
 rw [List.set_eq_take_append_cons_drop,if_pos (by rw [List.length_map]; exact h),← cH,← List.map_take,kF,← List.map_drop]
 congr 1
 show dZ _ ++ flat dZ _ = _
 rw [kF]; rfl
theorem wE {m:List Cl}{j:Nat}{X:AV}(h:j < m.length):flat dZ (cS m j X) = (flat bE (m.take j) ++ [iv m[j]!.val,bv m[j]!.alive,iv m[j]!.next]) ++ X :: flat bE (m.drop (j + 1)):=by
 rw [iS h,List.append_assoc]
theorem AN {m:List Cl}{j:Nat}{r:List Tg}:flat dZ (cS m j (sl b6 r)) = flat bE (m.set j { m[j]! with stk := r }):=by
 rw [← kF,List.map_set]; rfl
theorem yL {m:List Cl}{j:Nat}{X:AV}(h:j < m.length):gM (flat bE m) (0 + j * 4 + 3) [X] = flat dZ (cS m j X):=by
 rw [← kF]
 have := fI (f := dZ) (xs := m.map qS) (k := j) (j := 3) (new := [X]) (y := { qS m[j]! with av := X }) (by rw [List.length_map]; exact h) (by simp) (by
  have e : (m.map qS)[j]! = qS m[j]! := by rw [aS _ _ (by rw [List.length_map]; exact h),List.getElem_map,aS _ _ h]
  rw [e]; rfl)
 exact this
theorem tU {m:List Cl}{j:Nat}{X Y:AV}(h:j < m.length):gM (flat dZ (cS m j X)) (0 + j * 4 + 3) [Y] = flat dZ (cS m j Y):=by
 have e : cS m j Y = (cS m j X).set j { qS m[j]! with av := Y } := by unfold cS;rw [List.set_set]
 rw [e]
 exact fI (by rw [cP]; exact h) (by simp) (by rw [gJ h]; rfl)
theorem yN {m:List Cl}{j:Nat}{X:AV}{v:Int}(h:j < m.length):gM (flat dZ (cS m j X)) (0 + j * 4 + 2) [iv v] = flat dZ (cS (m.set j { m[j]! with next := v }) j X):=by
 have e : cS (m.set j { m[j]! with next := v }) j X = (cS m j X).set j ⟨m[j]!.val, m[j]!.alive, v, X⟩ := by
  have e2 : (m.set j { m[j]! with next := v })[j]! = { m[j]! with next := v } := by rw [aS _ _ (by rw [List.length_set]; exact h),List.getElem_set_self]
  unfold cS
  rw [e2,List.map_set,List.set_set,List.set_set]; rfl
 rw [e]
 exact fI (by rw [cP]; exact h) (by simp) (by rw [gJ h]; rfl)
theorem Le.cls {ts:List (Nat × AV)}{hs:List (Nat × Option (List AV))}{n:Nat}{z0:Lo}{o q j k:Nat}{m:List Cl}{r:List Tg}(hj:aO hs o = some (flat dZ (cS m j (.own q 0 k 2)))) (hq:aO hs q = some (flat b6 r)) (hk:k = r.length) (hjm:j < m.length) (hoq:o ≠ q) :
  Le ⟨ts,hs,n,z0⟩ ⟨ts,(o,some (flat bE (m.set j { m[j]! with stk := r }))) :: (q,none) :: hs,n,z0⟩ := by
 subst hk
 rw [wE hjm] at hj
 have h := Le.frzC (ts := ts) (n := n) (z0 := z0) _ hj hq hoq
 rw [← AN,wE hjm]; exact h
theorem w6 {ρ:Nat → Option Nat}{m:List Cl}{j k i i':Nat}(hr:ρ i = some i'):RnL ρ (flat dZ (cS m j (.own i 0 k 2))) (flat dZ (cS m j (.own i' 0 k 2))):=by
 by_cases h : j < m.length
 ·rw [iS h, iS h]
  exact RnL.app (RnL.purI inferInstance) (RnL.app (RnL.purI inferInstance) (RnL.cons (RnV.own hr) (RnL.purI inferInstance)))
 ·have e : ∀ X, cS m j X = m.map qS := fun X => List.set_eq_of_length_le (by rw [List.length_map]; omega)
  rw [e,e,kF]
  exact RnL.purI inferInstance
theorem sE {p:Prop}{α:Type}{a c:Option α}{b:α}(h:some b = c) (e:a = some b := by rfl):p ∨ a = c := .inr (e.trans h)
section
variable {P : Program} {N : Nat} {Q : Exit → AS → Prop} {all : Array Oper} {rest : List Oper} {ts : List (Nat × AV)} {hs : List (Nat × Option (List AV))} {n : Nat} {z0 : Lo} {md : Md}
variable {ty : TypeId} {pos : String} {af : Array Edge}
theorem aZ {d:Nat}{k:FuncId}{l:List Operand}{tys:Array TypeId}{avs avs0:List AV}{H0:List (Nat × Option (List AV))}{rr rr':AV}{hh:List (Nat × Option (List AV))}
  (mp : List Nat) (n1 : Nat) (ws : List (Nat × Option (List AV))) (h : MC P k avs0 H0 mp.length (fun _ : Unit => True) (fun _ => rr) (fun _ => hh)) [hc : CaT P k] (ha : evL (lk ts) l = some avs) (hd : distinct mp = true)
  (hM : Nat.ble (n + (n1 - mp.length)) aV = true) (hN : Nat.blt d N = true)
  {md' : Md} [hmd : MdA md (fU l ++ mp.map .inr) (ws.map (fun p => .inr p.1) ++ [.inl d]) md']
  (kk : RW P N all Q md' rest ⟨(d,rr') :: ts,hO hs ws,n + (n1 - mp.length),z0⟩)
  (hH0 : wI hs H0 mp 0 mp := by repeat' (first|exact trivial|(refine And.intro ⟨_,_,rfl,by assumption,?_⟩ ?_)|exact RnL.purI inferInstance|exact w6 rfl|exact RnV.purI inferInstance|exact RnV.own rfl|exact RnV.optr rfl|exact RnL.nil|refine RnL.cons ?_ ?_|refine RnV.agg ?_|refine RnV.tup ?_))
  (hk : gZ mp.length H0 = true := by rfl)
  (har : RnL (mp[·]?) avs0 avs := by repeat' (first|exact RnL.purI inferInstance|exact w6 rfl|exact RnV.purI inferInstance|exact RnV.own rfl|exact RnV.optr rfl|exact RnL.nil|refine RnL.cons ?_ ?_|refine RnV.agg ?_|refine RnV.tup ?_))
  (hr : RnV (BA mp n n1) rr rr' := by repeat' (first|exact RnL.purI inferInstance|exact w6 rfl|exact RnV.purI inferInstance|exact RnV.own rfl|exact RnV.optr rfl|exact RnL.nil|refine RnL.cons ?_ ?_|refine RnV.agg ?_|refine RnV.tup ?_))
  (hwa : AE mp ws = true := by simp [AE])
  (hw : uC (BA mp n n1) hh ws := by repeat' (first|exact trivial|(refine And.intro ⟨0,_,rfl,rfl,?_⟩ ?_)|(refine And.intro ⟨1,_,rfl,rfl,?_⟩ ?_)|(refine And.intro ⟨2,_,rfl,rfl,?_⟩ ?_)|(refine And.intro ⟨3,_,rfl,rfl,?_⟩ ?_)|(refine And.intro ⟨4,_,rfl,rfl,?_⟩ ?_)|(refine And.intro ⟨5,_,rfl,rfl,?_⟩ ?_)|(refine And.intro ⟨6,_,rfl,rfl,?_⟩ ?_)|exact RnL.purI inferInstance|exact w6 rfl|exact RnV.purI inferInstance|exact RnV.own rfl|exact RnV.optr rfl|exact RnL.nil|refine RnL.cons ?_ ?_|refine RnV.agg ?_|refine RnV.tup ?_)) :
  RW P N all Q md (⟨some d,.call ⟨.value (.func k),l.toArray,tys⟩,ty,pos,af,none⟩ :: rest) ⟨ts,hs,n,z0⟩ :=
 Ev mp n1 ws h (avs := avs) ha hd hH0 hk har hM hr hwa hw hN (md' := md') (hmd := hmd) kk
end
theorem aE {G K:Prop}(k:K) (h:Hy K → G := by first|(intro k;(first|refine Gt ?_ | refine OK ?_);exact k.pf) | fail):G := h ⟨k⟩
end Go.AL
namespace Go.AL
section
variable {ts : List Int} {pts : List Pnt} {a : Nat} {s : Mc}
theorem H3 {f:Flows ts pts}{i:Iss}(ha:a < pts.length) (h:i ∈ Fg ts pts f.Aa f.Am f.Al f.Af f.Ap a):i ∈ f.iss := List.mem_flatMap.2 ⟨a,List.mem_range.2 ha,h⟩
end
open Go.RowKit Go.MapKept
def Oe (r : Nat) (ks : List Int) (w : World) : Prop := ∃ es ck,w.heap[r]? = some (.map es ck) ∧ ∀ e ∈ es.toList,∃ k ∈ ks,e.key = .int .i64 k
structure GsM (C : Ctx) (s : AS) (r : Nat) (ks : List Int) (a : Act) (w : World) : Prop where
 g : Gs C s a w
 m : Oe r ks w
 l : C.w0.heap.size ≤ r
theorem Fr.trans2 {W0 W1:Nat → Prop}{w0 w w':World}(h:Fr W0 w0 w) (k:Fr W1 w w') (hW:∀ b,W1 b → W0 b ∨ w0.heap.size ≤ b):Fr W0 w0 w' :=
 ⟨k.os.trans h.os, k.tape.trans h.tape, k.output.trans h.output, Nat.le_trans h.size k.size, fun b hb hw => by
  rw [k.block b (Nat.lt_of_lt_of_le hb h.size) (fun q => (hW b q).elim hw (fun h => by omega))]; exact h.block b hb hw,fun b => Nat.le_trans (h.bs b) (k.bs b)⟩
theorem GsM.base {C:Ctx}{s:AS}{r:Nat}{ks:List Int}{a:Act}{w:World}(h:GsM C s r ks a w):∃ C':Ctx,C'.N = C.N ∧ Gs C' s a w ∧ ∀ s' a' w',Gs C' s' a' w' → GsM C s' r ks a' w':=by
 obtain ⟨⟨h0,ι,g,gh⟩,⟨es,ck,hm,hk⟩,hl⟩ := h
 let C' : Ctx := { C with w0 := w,W0 := fun b => ∃ id cs β,aO s.hs id = some cs ∧ ι id = some (some (b,β)),xlt := fun b hb => Nat.lt_of_lt_of_le (C.xlt b hb) gh.fr.size }
 have hW : ∀ b, C'.W0 b → C.W0 b ∨ C.w0.heap.size ≤ b := by
  rintro b ⟨id,cs,β,h1,h2⟩
  rcases gh.obj id cs h1 with ⟨h3,_⟩ | ⟨b',β',arr,e,h3,h4,h5,h6,h7,h8⟩
  ·rw [h3] at h2;cases h2
  ·rw [h3] at h2;cases h2;exact h8
 have hr : ¬ C'.W0 r := by
  rintro ⟨id,cs,β,h1,h2⟩
  rcases gh.obj id cs h1 with ⟨h3,_⟩ | ⟨b',β',arr,e,h3,h4,h5,h6,h7,h8⟩
  ·rw [h3] at h2;cases h2
  ·rw [h3] at h2;cases h2;rw [hm] at h4;cases h4
 refine ⟨C',rfl,⟨h0,ι,⟨g.df,g.sz,g.tm⟩,⟨fun id cs h => ?_,gh.sep,Fr.refl _ _,gh.ex,gh.fresh⟩⟩,?_⟩
 ·rcases gh.obj id cs h with h1 | ⟨b', β', arr, e, h3, h4, h5, h6, h7, h8⟩
  ·exact .inl h1
  ·exact .inr ⟨b',β',arr,e,h3,h4,h5,h6,h7,.inl ⟨id,cs,β',h,h3⟩⟩
 ·rintro s' a' w' ⟨h0', ι', g', gh'⟩
  have f : Fr C'.W0 w w' := gh'.fr
  refine ⟨⟨h0',ι',⟨g'.df,g'.sz,g'.tm⟩,⟨fun id cs h => ?_,gh'.sep,gh.fr.trans2 f hW,gh'.ex,gh'.fresh⟩⟩,⟨es,ck,by rw [f.block r (eI hm) hr]; exact hm,hk⟩,hl⟩
  rcases gh'.obj id cs h with h1 | ⟨b',β',arr,e,h3,h4,h5,h6,h7,h8⟩
  ·exact .inl h1
  ·refine .inr ⟨b', β', arr, e, h3, h4, h5, h6, h7, ?_⟩
   rcases h8 with h8|h8
   ·exact hW _ h8
   ·exact .inr (Nat.le_trans gh.fr.size h8)
def rP (P : Program) (N : Nat) (c : Code) (Q : Exit → AS → List Int → Prop) (r : Nat) (ks : List Int) (s : AS) : Prop :=
 ∀ (C : Ctx) (a : Act) (w : World),C.N = N → GsM C s r ks a w → c.wp P (fun e a' w' => ∃ s' ks',Q e s' ks' ∧ GsM C s' r ks' a' w') a w
def FO (P : Program) (N : Nat) (all : Array Oper) (Q : Exit → AS → List Int → Prop) (r : Nat) (ks : List Int) (l : List Oper) (s : AS) : Prop :=
 ∀ (C : Ctx) (a : Act) (w : World),C.N = N → GsM C s r ks a w → wpList P all (fun e a' w' => ∃ s' ks',Q e s' ks' ∧ GsM C s' r ks' a' w') l a w
def uB (K : AS → List Int → Prop) (Q : Exit → AS → List Int → Prop) : Exit → AS → List Int → Prop
 | .normal,s,ks => K s ks
 | e,s,ks => Q e s ks
def J9 (id : Nat) (Q : Exit → AS → List Int → Prop) : Exit → AS → List Int → Prop
 | .exit i,s,ks => if i = id then Q .normal s ks else Q (.exit i) s ks
 | e,s,ks => Q e s ks
section
variable {P : Program} {N : Nat} {Q : Exit → AS → List Int → Prop} {s : AS} {r : Nat} {ks : List Int}
theorem oD {c:Code}(h:AW P N c (fun e s' => Q e s' ks) s):rP P N c Q r ks s:=by
 intro C a w hN g
 obtain ⟨C',h1,h2,h3⟩ := g.base
 exact wp_mono (h C' a w (h1.trans hN) h2) fun e a' w' ⟨s',q1,q2⟩ => ⟨s',ks,q1,h3 _ _ _ q2⟩
theorem kN {x y:Code}(h:rP P N x (uB (fun s' ks' => rP P N y Q r ks' s') Q) r ks s):rP P N (.seq x y) Q r ks s:=by
 intro C a w hN g
 refine wp_seq (wp_mono (h C a w hN g) ?_)
 rintro e a' w' ⟨s',ks',h1,h2⟩
 cases e with
 | normal => exact h1 C a' w' hN h2
 | _ => exact ⟨s',ks',h1,h2⟩
theorem Bg {x y:Code}{c:Operand}{b:Bool}(hc:ev (lk s.ts) c = some (.v (.bool b))) (h1:b = true → rP P N x Q r ks s) (h2:b = false → rP P N y Q r ks s):rP P N (.cond c x y) Q r ks s:=by
 rintro C a w hN ⟨⟨h0,ι,g,gh⟩,hm,hl⟩
 have h := bV g hc
 simp only [Rd] at h
 cases b
 ·exact wp_cond_false h (h2 rfl C a w hN ⟨⟨h0,ι,g,gh⟩,hm,hl⟩)
 ·exact wp_cond_true h (h1 rfl C a w hN ⟨⟨h0,ι,g,gh⟩,hm,hl⟩)
theorem uZ {id:Nat}{c:Code}(h:rP P N c (J9 id Q) r ks s):rP P N (.block id c) Q r ks s:=by
 intro C a w hN g
 refine wp_block (wp_mono (h C a w hN g) ?_)
 rintro e a' w' ⟨s',ks',h1,h2⟩
 cases e with
 | exit i =>
  simp only [Exit.inBlock,J9] at h1 ⊢
  split
  ·rename_i hi;rw [if_pos hi] at h1;exact ⟨s',ks',h1,h2⟩
  ·rename_i hi;rw [if_neg hi] at h1;exact ⟨s',ks',h1,h2⟩
 | _ => exact ⟨s',ks',h1,h2⟩
theorem Be (h:Q .normal s ks):rP P N .skip Q r ks s := fun C a w _ g => wp_skip ⟨s,ks,h,g⟩
theorem Gn {id:Nat}(h:Q (.exit id) s ks):rP P N (.exit id) Q r ks s := fun C a w _ g => wp_exit ⟨s,ks,h,g⟩
theorem Gq {σ:Type}{c:Code}(p:σ → Prop) (I:σ → AS) (J:σ → List Int) (μ:σ → Nat) (h0:∃ i,p i ∧ Le s (I i) ∧ J i = ks)
  (round : ∀ i,p i → rP P N c (uB (fun s' ks' => ∃ j,p j ∧ μ j < μ i ∧ Le s' (I j) ∧ J j = ks') Q) r (J i) (I i)) : rP P N (.loop c) Q r ks s := by
 intro C a w hN g
 obtain ⟨i,h1,h2,h3⟩ := h0
 subst h3
 refine wp_loop (fun a w => ∃ i,p i ∧ GsM C (I i) r (J i) a w) (fun a w => oG fun n => ∃ i,p i ∧ GsM C (I i) r (J i) a w ∧ μ i = n) ⟨i,h1,⟨h2 C a w g.g,g.m,g.l⟩⟩ ?_
 rintro a w ⟨i0,hp0,hg0⟩
 obtain ⟨⟨i,hp,hg,hm⟩,hmin⟩ := iC (S := fun n => ∃ i,p i ∧ GsM C (I i) r (J i) a w ∧ μ i = n) ⟨_,i0,hp0,hg0,rfl⟩
 refine wp_mono (round i hp C a w hN hg) ?_
 rintro e a' w' ⟨s',ks',h3,h4⟩
 cases e with
 | normal =>
  obtain ⟨j,q1,q2,q3,rfl⟩ := h3
  have h5 : GsM C (I j) r (J j) a' w' := ⟨q3 C a' w' h4.g,h4.m,h4.l⟩
  refine ⟨⟨j,q1,h5⟩,?_⟩
  have := (iC (S := fun n => ∃ i,p i ∧ GsM C (I i) r (J i) a' w' ∧ μ i = n) ⟨_,j,q1,h5,rfl⟩).2 (μ j) ⟨j,q1,h5,rfl⟩
  omega
 | _ => exact ⟨s',ks',h3,h4⟩
theorem DZ {σ:Type}{c:Code}{ts:List (Nat × AV)}{hs:List (Nat × Option (List AV))}{n:Nat}{z0:Lo}(kl:List Nat) (kt:List (Nat × AV)) (js:List Nat) (kh:List (Nat × Option (List AV)))
  (ot : σ → List (Nat × AV)) (oh : σ → List (Nat × Option (List AV))) (J : σ → List Int) (p : σ → Prop) (μ : σ → Nat) (i0 : σ) (h0 : p i0) (hJ : J i0 = ks) (hk : pE kl ts = kt) (hj : pU js hs = kh)
  (h1 : o7 ts (ot i0)) (h2 : nA hs (oh i0))
  (round : ∀ i,p i → rP P N c (uB (fun s' ks' => ∃ j,p j ∧ μ j < μ i ∧ Le s' ⟨ot j ++ kt,oh j ++ kh,n,z0⟩ ∧ J j = ks') Q) r (J i) ⟨ot i ++ kt,oh i ++ kh,n,z0⟩) :
  rP P N (.loop c) Q r ks ⟨ts,hs,n,z0⟩ := by
 subst hk hj
 exact Gq p (fun i => ⟨ot i ++ pE kl ts,oh i ++ pU js hs,n,z0⟩) J μ ⟨i0,h0,Le.lit (lP h1 (mG kl)) (lM h2 (oU js)) (Nat.le_refl _),hJ⟩ round
theorem tY {id:Nat}{l:List Oper}(h:FO P N l.toArray Q r ks l s):rP P N (.region id l.toArray false) Q r ks s :=
 fun C a w hN g => wp_region_lit (h C a w hN g)
variable {all : Array Oper}
theorem L5 {o:Oper}{a:Act}{w:World}{K K':Act → World → Prop}{Q1 Q2:Exit → Act → World → Prop}(h:∀ a w,K a w → K' a w) (hq:∀ e a w,Q1 e a w → e = .normal)
  (hh : o.wp P a w K Q1) : o.wp P a w K' Q2 := by
 have hL : ¬ LetsOut Q1 := fun ⟨a,w,q⟩ => by cases hq _ _ _ q
 unfold Oper.wp at *
 generalize (execOp a.eval o).run P w = z at *
 cases z with
 | ok n w' =>
  cases n <;> simp only [Oper.upon] at hh ⊢ <;>
   first
    | exact h _ _ hh
    | exact Calls.mono hh (fun e w'' he => by cases e <;> first|exact h _ _ he|(cases hq _ _ _ he)|exact absurd he hL)
    | exact Rows.mono hh (fun _ _ he => h _ _ he)
 | halt x w' => cases x <;> simp only [Oper.upon] at hh ⊢ <;> (cases hq _ _ _ hh)
theorem iQ {Q1 Q2:Exit → Act → World → Prop}{l2:List Oper}(k:∀ e a w,Q1 e a w → e = .normal ∧ wpList P all Q2 l2 a w):∀ (l1:List Oper) (a:Act) (w:World),wpList P all Q1 l1 a w → wpList P all Q2 (l1 ++ l2) a w
 | [],a,w,h => (k _ _ _ h).2
 | o :: l1, a, w, h => by
  have hL : ¬ LetsOut Q1 := fun ⟨a,w,q⟩ => by cases (k _ _ _ q).1
  rw [List.cons_append]
  unfold wpList at h ⊢
  split
  ·rename_i hw
   rw [if_pos hw] at h
   rcases h with h | ⟨_,h⟩
   ·exact .inl (L5 (fun a w => iQ k l1 a w) (fun e a w q => (k e a w q).1) h)
   ·exact absurd h hL
  ·rename_i hw;rw [if_neg hw] at h;exact iQ k l1 _ _ h
theorem Bo {l1 l2:List Oper}(h:RW P N all (fun e s' => e = .normal ∧ FO P N all Q r ks l2 s') .txt l1 s):FO P N all Q r ks (l1 ++ l2) s:=by
 intro C a w hN g
 obtain ⟨C',h1,h2,h3⟩ := g.base
 exact iQ (fun e a' w' ⟨s',⟨q1,q2⟩,q3⟩ => ⟨q1,q2 C a' w' hN (h3 _ _ _ q3)⟩) l1 a w (h C' a w (h1.trans hN) h2)
theorem Jy (h:Q .normal s ks):FO P N all Q r ks [] s := fun C a w _ g => wpList_nil ⟨s,ks,h,g⟩
variable {rest : List Oper} {ts : List (Nat × AV)} {hs : List (Nat × Option (List AV))} {n : Nat} {z0 : Lo} {d : Nat} {ty : TypeId} {pos : String} {af : Array Edge}
theorem Ft {dst:Option Tmp}{op:Op}{j e:Nat}{want b:Bool}(hj:(all[j]?).bind (·.dst) = some e) (hb:lk s.ts e = some (.v (.bool b))) (hw:b = want) (h:FO P N all Q r ks (⟨dst,op,ty,pos,af,none⟩ :: rest) s) :
  FO P N all Q r ks (⟨dst,op,ty,pos,af,some (j,want)⟩ :: rest) s := by
 subst hw
 intro C a w hN g
 have h' := h C a w hN g
 obtain ⟨⟨h0,ι,g,gh⟩,hm,hl⟩ := g
 have hyl : yielded all a.tmps j = some b := by
  obtain ⟨y,hy,hr⟩ := g.tm e _ hb
  simp only [Rd] at hr
  subst hr
  simp [yielded,hj,hy]
 unfold wpList at h' ⊢
 simp only [Region.wanted,hyl,if_true,beq_self_eq_true] at h' ⊢
 exact h'
theorem qH {w:World}{mt kt et:TypeId}{es:Array MapEntry}{ck:Nat}{a:Int}(hu:P.underlying mt = some (.map kt et)) (hk:P.underlying kt = some (.int .i64)) (hz:(P.info? et).bind (·.zero) = some (.bool false))
  (hb : w.heap[r]? = some (.map es ck)) (hn : ∀ e ∈ es.toList,∃ k,k ≠ a ∧ e.key = .int .i64 k) : (Instr.lookup mt (.map (some r)) (.int .i64 a) false).run P w = .ok (.bool false) w ∧ Instr.findNow (.int .i64) (.int .i64 a) es.toList 0 = some none := by
 have hkey : IsKey (.int .i64) (.int .i64 a) := by simp [IsKey]
 have hf : Instr.findNow (.int .i64) (.int .i64 a) es.toList 0 = some none := by
  rcases findNow_spec hkey es.toList 0 (fun x hx => by obtain ⟨k,_,h2⟩ := hn x hx;rw [h2]; simp [IsKey]) with ⟨h,_⟩ | ⟨j,e,_,h2,h3⟩
  ·exact h
  ·obtain ⟨k, h4, h5⟩ := hn e (List.mem_of_getElem? h2)
   rw [h5] at h3;cases h3;exact absurd rfl h4
 refine ⟨?_,hf⟩
 cases hi : P.info? et with
 | none => rw [hi] at hz;cases hz
 | some i =>
  rw [hi] at hz
  have hz2 : i.zero = some (.bool false) := hz
  simp [Instr.lookup,bX hu,Go.MapKept.run_getObj_map hb,run_checkKey hk hkey,run_findKey hk hf,zeroValue,typeInfo,hi,hz2,Result.andThen]
theorem CG {mt kt et:TypeId}{x y:Operand}{a:Int}(hu:P.underlying mt = some (.map kt et)) (hk:P.underlying kt = some (.int .i64)) (hz:(P.info? et).bind (·.zero) = some (.bool false))
  (hx : ev (lk ts) x = some (.v (.map (some r)))) (hy : ev (lk ts) y = some (.v (.int .i64 a))) (ha : a ∉ ks) (hN : Nat.blt d N = true) (kk : FO P N all Q r ks rest ⟨(d,.v (.bool false)) :: ts,hs,n,z0⟩) :
  FO P N all Q r ks (⟨some d,.lookup mt x y false,ty,pos,af,none⟩ :: rest) ⟨ts,hs,n,z0⟩ := by
 rintro C ac w hCN ⟨⟨h0,ι,g,gh⟩,⟨es,ck,hm,hkk⟩,hl⟩
 refine wpList_plain rfl (fun K hK => ?_)
 have e1 := bV g hx
 have e2 := bV g hy
 simp only [Rd] at e1 e2
 have hr := (qH (P := P) hu hk hz hm (a := a) (fun e he => by obtain ⟨k,h1,h2⟩ := hkk e he;exact ⟨k,fun q => ha (q ▸ h1),h2⟩)).1
 have hop : (execOp ac.eval ⟨some d, .lookup mt x y false, ty, pos, af, none⟩).run P w = .ok (.value (.bool false)) w := by
  simp [execOp,e1,e2,hr]
 simp only [Oper.wp,hop,Oper.upon]
 refine hK _ _ (kk C _ _ hCN ⟨⟨h0,ι,?_,gh⟩,⟨es,ck,hm,hkk⟩,hl⟩)
 show TG C ι (lk ((d,_) :: ts)) _ _ _
 rw [jM]
 exact g.put (by have := dC hN;omega) (by simp [Rd])
theorem CK {mt kt et:TypeId}{x y z:Operand}{a:Int}(hu:P.underlying mt = some (.map kt et)) (hk:P.underlying kt = some (.int .i64)) (hz:(P.info? et).bind (·.zero) = some (.bool false))
  (hx : ev (lk ts) x = some (.v (.map (some r)))) (hy : ev (lk ts) y = some (.v (.int .i64 a))) (ha : a ∉ ks) (kk : FO P N all Q r (ks ++ [a]) rest ⟨ts,hs,n,z0⟩) :
  FO P N all Q r ks (⟨none,.mapUpdate mt x y z,ty,pos,af,none⟩ :: rest) ⟨ts,hs,n,z0⟩ := by
 rintro C ac w hCN ⟨⟨h0,ι,g,gh⟩,⟨es,ck,hm,hkk⟩,hl⟩
 refine wpList_plain rfl (fun K hK => ?_)
 have e1 := bV g hx
 have e2 := bV g hy
 simp only [Rd] at e1 e2
 have hkey : IsKey (.int .i64) (.int .i64 a) := by simp [IsKey]
 have hf := (qH (P := P) hu hk hz hm (a := a) (fun e he => by obtain ⟨k,h1,h2⟩ := hkk e he;exact ⟨k,fun q => ha (q ▸ h1),h2⟩)).2
 let o2 : Obj := .map (es.push { key := .int .i64 a,val := ac.eval z,born := ck }) (ck + 1)
 let w2 : World := { w with heap := w.heap.setIfInBounds r o2 }
 have hop : (execOp ac.eval ⟨none, .mapUpdate mt x y z, ty, pos, af, none⟩).run P w = .ok .skip w2 := by
  simp [execOp,e1,e2,Instr.mapUpdate,bX hu,Go.MapKept.run_getObj_map hm,run_checkKey hk hkey,run_findKey hk hf,Go.MapKept.run_setObj_map _ hm,Result.andThen,w2,o2]
 obtain ⟨hs1,hs2⟩ := heap_set (o' := o2) hm
 have hne : ∀ b c e f,w.heap[b]? = some (.cells c e f) → b ≠ r := fun b c e f h q => by subst q;rw [hm] at h;cases h
 have hbs : ∀ b, qR w2 b = qR w b := fun b => by
  by_cases e : b = r
  ·subst e;show (match w2.heap[b]? with|some (.cells c _ _) => c.size | _ => 0) = _; rw [show w2.heap[b]? = some o2 from hs1]; simp [qR,hm,o2]
  ·exact oQ (hs2 b e)
 have hcell : ∀ b o v, w.cell? ⟨b, o, none⟩ = some v → w2.cell? ⟨b, o, none⟩ = some v := fun b o v h => by
  have : b ≠ r := fun q => by subst q;rw [World.cell?] at h;simp [hm] at h
  rw [cZ (hs2 b this)]; exact h
 have car : ∀ bad : Nat → Prop,Carry w bad ι w2 bad ι := fun bad => ⟨fun b o v h1 h2 => ⟨h1,hcell b o v h2⟩,fun _ _ h => h,fun b => Nat.le_of_eq (hbs b).symm⟩
 simp only [Oper.wp,hop,Oper.upon]
 refine hK _ _ (kk C _ _ hCN ⟨⟨h0,ι,?_,?_⟩,⟨_,_,hs1,?_⟩,hl⟩)
 ·exact g.carry (car _)
 ·refine ⟨fun id cs h => ?_, gh.sep, ⟨gh.fr.os, gh.fr.tape, gh.fr.output, by show C.w0.heap.size ≤ (w.heap.setIfInBounds r o2).size; rw [Array.size_setIfInBounds]; exact gh.fr.size, fun b hb hw => ?_, fun b => by rw [hbs]; exact gh.fr.bs b⟩, gh.ex, gh.fresh⟩
  ·rcases gh.obj id cs h with h1 | ⟨b', β', arr, e, h3, h4, h5, h6, h7, h8⟩
   ·exact .inl h1
   ·exact .inr ⟨b',β',arr,e,h3,by rw [show w2.heap[b']? = w.heap[b']? from hs2 b' (hne _ _ _ _ h4)]; exact h4,h5,RdC.carryB (car _) _ _ _ (fun o v hv => hcell b' o v hv) h6,h7,h8⟩
  ·rw [show w2.heap[b]? = w.heap[b]? from hs2 b (by omega)]; exact gh.fr.block b hb hw
 ·intro e he
  rw [Array.toList_push,List.mem_append,List.mem_singleton] at he
  rcases he with he|rfl
  ·obtain ⟨k,h1,h2⟩ := hkk e he;exact ⟨k,List.mem_append_left _ h1,h2⟩
  ·exact ⟨a,by simp,rfl⟩
theorem FY {Q:Exit → AS → Prop}{id:Nat}{t:TypeId}{y:Code}(hN:Nat.blt d N = true)
  (h : ∀ r,FO P N (⟨some d,.makeMap t none,ty,pos,af,none⟩ :: rest).toArray (fun e s' ks' => e = .normal ∧ rP P N y (fun e s' _ => Q e s') r ks' s') r [] rest ⟨(d,.v (.map (some r))) :: ts,hs,n,z0⟩) :
  AW P N (.seq (.region id (⟨some d,.makeMap t none,ty,pos,af,none⟩ :: rest).toArray false) y) Q ⟨ts,hs,n,z0⟩ := by
 rintro C ac w hCN ⟨h0,ι,g,gh⟩
 refine wp_seq (wp_region_lit (wpList_plain rfl (fun K hK => ?_)))
 have hop : (execOp ac.eval ⟨some d, .makeMap t none, ty, pos, af, none⟩).run P w = .ok (.value (.map (some w.heap.size))) (w.alloc (.map #[] 0)) := by
  simp [execOp,Instr.makeMap,newObj,Sem.run]
 have f : Fr (fun _ => False) w (w.alloc (.map #[] 0)) := by
  refine ⟨rfl,rfl,rfl,by simp,fun b hb _ => Below.heap_alloc w _ b hb,fun b => ?_⟩
  rcases Nat.lt_or_ge b w.heap.size with hb|hb
  ·rw [oQ (Below.heap_alloc w _ b hb)]; exact Nat.le_refl _
  ·simp [qR,Array.getElem?_eq_none hb]
 obtain ⟨g2,c2⟩ := gh.ext f
 simp only [Oper.wp,hop,Oper.upon]
 refine hK _ _ ?_
 have hh := h w.heap.size C (ac.put (some d) (.map (some w.heap.size))) (w.alloc (.map #[] 0)) hCN ⟨⟨h0,ι,?_,g2⟩,⟨#[],0,heap_alloc_new w _,by simp⟩,gh.fr.size⟩
 ·have := iQ (l2 := []) (P := P) (Q2 := Exit.then (y.wp P (fun e a' w' => ∃ s', Q e s' ∧ Gs C s' a' w')) (fun e a' w' => ∃ s', Q e s' ∧ Gs C s' a' w')) (all := (⟨some d, .makeMap t none, ty, pos, af, none⟩ :: rest).toArray)
   (k := fun e a' w' ⟨s', ks', ⟨q1, q2⟩, q3⟩ => ⟨q1, by
    subst q1
    exact wpList_nil (wp_mono (q2 C a' w' hCN q3) (fun e a'' w'' ⟨s'',ks'',u1,u2⟩ => ⟨s'',u1,u2.g⟩))⟩) rest _ _ hh
  rw [List.append_nil] at this
  exact this
 ·show TG C ι (lk ((d, _) :: ts)) _ _ _
  rw [jM]
  exact (g.carry c2).put (by have := dC hN;omega) (by simp [Rd])
theorem GM {K K2:AS → List Int → Prop}{id:Nat}(h:Q .normal s ks):uB K (uB K2 (J9 id Q)) (.exit id) s ks:=by
 have e : uB K (uB K2 (J9 id Q)) (.exit id) s ks = (if id = id then Q .normal s ks else Q (.exit id) s ks) := rfl
 rw [e,if_pos rfl]; exact h
theorem Ih {Q:Exit → AS → Prop}{id:Nat}{t:TypeId}{y:Code}(h:Stop (AW P N (.seq (.region id (⟨some d,.makeMap t none,ty,pos,af,none⟩ :: rest).toArray false) y) Q s)) :
  AW P N (.seq (.region id (⟨some d,.makeMap t none,ty,pos,af,none⟩ :: rest).toArray false) y) Q s := h
theorem LX {Q:Exit → AS → Prop}{c:Code}(h:AW P N c Q s):Stop (AW P N c Q s) := h
theorem zZ {l:List Oper}(h:RW P N all (fun e s' => e = .normal ∧ Q e s' ks) .txt l s):FO P N all Q r ks l s:=by
 intro C a w hN g
 obtain ⟨C',h1,h2,h3⟩ := g.base
 have := iQ (l2 := []) (P := P) (all := all) (Q1 := fun e a' w' => ∃ s', (e = .normal ∧ Q e s' ks) ∧ Gs C' s' a' w') (Q2 := fun e a' w' => ∃ s' ks', Q e s' ks' ∧ GsM C s' r ks' a' w')
  (k := fun e a' w' ⟨s',⟨q1,q2⟩,q3⟩ => ⟨q1,by subst q1;exact wpList_nil ⟨s',ks,q2,h3 _ _ _ q3⟩⟩) l a w (h C' a w (h1.trans hN) h2)
 rwa [List.append_nil] at this
end
section
variable {P : Program} {N : Nat} {Q : Exit → AS → Prop} {all : Array Oper} {rest : List Oper} {ts : List (Nat × AV)} {hs : List (Nat × Option (List AV))} {n : Nat} {z0 : Lo} {md : Md}
variable {d : Nat} {ty : TypeId} {pos : String} {af : Array Edge}
theorem iI {α:Type}{hα:Inhabited α}{f g:α → List AV}{xs:List α}{e id k j z:Nat}{t:TypeId}{x:Operand}{cs':List AV}[ha:AgT P t true] [hz:SzT P t z] (hx:ev (lk ts) x = some (.optr id (0 + k * e + j)))
  (hH : aO hs id = some (flat f xs)) (hf : FlT f e) (hg : FE f g) (hk : k < xs.length) (hj : j + z ≤ e) (hc : ((g xs[k]!).drop j).take z = cs') (h0 : Nat.blt 0 z = true) (hN : Nat.blt d N = true) {md' : Md} [hmd : MdA md (rO x ++ rA (.optr id (0 + k * e + j))) [.inl d] md']
  (kk : RW P N all Q md' rest ⟨(d,.agg cs') :: ts,hs,n,z0⟩) : RW P N all Q md (⟨some d,.load t x,ty,pos,af,none⟩ :: rest) ⟨ts,hs,n,z0⟩ := by
 have hl : (g xs[k]!).length = e := by rw [← hg.pf]; exact hf.pf _
 subst hc
 refine kI (cs := (flat f xs).drop (0 + k * e + j)) hx ha.pf hz.pf (by simp only [deref,hH,Option.map_some]) (cs' := ((g xs[k]!).drop j).take z) ?_ (by rw [List.length_take,List.length_drop,hl]; omega) (by have := dC h0;omega) (dC hN) (by rw [hmd.pf]; exact kk)
 rw [Nat.zero_add,← List.drop_drop,eS f xs k hk,← hg.pf,List.drop_append_of_le_length (by rw [hf.pf]; omega),List.take_append_of_le_length (by rw [List.length_drop,hf.pf]; omega)]
end
theorem EB (c:Int):jB .and .i64 c 1 = some (.int .i64 (c % 2)):=by
 have h : (BitVec.ofInt 64 c &&& BitVec.ofInt 64 1).toNat = (c % 2).toNat := by
  rw [BitVec.toNat_and,show (BitVec.ofInt 64 1).toNat = 1 from rfl,Nat.and_one_is_mod,BitVec.toNat_ofInt]
  omega
 have e : jB .and .i64 c 1 = some (.int .i64 (IntKind.i64.wrap ((BitVec.ofInt 64 c &&& BitVec.ofInt 64 1).toNat : Int))) := rfl
 rw [e,h]
 rcases Int.emod_two_eq c with h2|h2 <;> rw [h2] <;> rfl
section
variable {P : Program} {N : Nat} {Q : Exit → AS → Prop} {all : Array Oper} {rest : List Oper} {ts : List (Nat × AV)} {hs : List (Nat × Option (List AV))} {n : Nat} {z0 : Lo} {md : Md}
variable {d : Nat} {ty : TypeId} {pos : String} {af : Array Edge}
theorem JV {t t':TypeId}{x y:Operand}{c:Int}(hx:ev (lk ts) x = some (.v (.int .i64 c))) (hy:ev (lk ts) y = some (.v (.int .i64 1)))
  (hN : Nat.blt d N = true) {md' : Md} [hmd : MdA md (rO x ++ rO y) [.inl d] md'] (kk : RW P N all Q md' rest ⟨(d,.v (.int .i64 (c % 2))) :: ts,hs,n,z0⟩) : RW P N all Q md (⟨some d,.binOp .and t x y t',ty,pos,af,none⟩ :: rest) ⟨ts,hs,n,z0⟩ :=
 gP hx hy (.inl rfl) (EB c) (dC hN) (by rw [hmd.pf]; exact kk)
end
theorem FD {P:Program}{N:Nat}{Q:Exit → AS → Prop}{all:Array Oper}{rest:List Oper}{ts:List (Nat × AV)}{hs:List (Nat × Option (List AV))}{n:Nat}{z0:Lo}{d:Nat}{ty:TypeId}{pos:String}{af:Array Edge}
  {t t' el : TypeId} {x : Operand} {id off m e : Nat} [ht : SlT P t el] (hx : ev (lk ts) x = some (.own id off m e)) (hN : Nat.blt d N = true)
  (kk : ∀ b : Bool,(b = true → m = 0) → RW P N all Q .txt rest ⟨(d,.v (.bool b)) :: ts,hs,n,z0⟩) : RW P N all Q .txt (⟨some d,.binOp .eql t x (.const (.slice none 0 0)) t',ty,pos,af,none⟩ :: rest) ⟨ts,hs,n,z0⟩ := by
 rintro C a w hCN ⟨h0,ι,g,gh⟩
 refine wpList_plain rfl (fun K hK => ?_)
 have h1 := bV g hx
 simp only [Rd] at h1
 obtain ⟨a', m', c, h2, hb⟩ : ∃ a' m' c, a.eval x = .slice a' m' c ∧ (a'.isNone = true → m = 0) := by
  rcases h1 with ⟨_,rfl,a',h2⟩ | ⟨b,β,c,_,h2,_⟩
  ·exact ⟨a',0,0,h2,fun _ => rfl⟩
  ·exact ⟨_,m,c,h2,fun h => by cases h⟩
 have hu := g6 ht.pf
 have hg : (eqGuard .eql t x (.const (.slice none 0 0)) (.slice a' m' c) (.slice none 0 0)).run P w = .ok () w := by simp [eqGuard]
 have hr : (execOp a.eval ⟨some d, .binOp .eql t x (.const (.slice none 0 0)) t', ty, pos, af, none⟩).run P w = .ok (.value (.bool a'.isNone)) w := by
  have e2 : a.eval (.const (.slice none 0 0)) = .slice none 0 0 := rfl
  simp only [execOp,h2,e2,Sem.run_bind,hg,Result.andThen_ok,vT w t el hu,Sem.run_pure]
 simp only [Oper.wp,hr,Oper.upon]
 refine hK _ _ (kk a'.isNone hb C _ _ hCN ⟨h0,ι,?_,gh⟩)
 show TG C ι (lk ((d,AV.v (.bool a'.isNone)) :: ts)) _ _ _
 rw [jM]
 exact g.put (by have := dC hN;omega) (by simp [Rd])
end Go.AL
namespace Go.AL
open Go.RowKit
mutual
def FJ : Stmt → Prop
 | .mk _ _ _ _ th el => (th.length ≤ 9223372036854775807 ∧ I3 th) ∧ (el.length ≤ 9223372036854775807 ∧ I3 el)
def I3 : List Stmt → Prop
 | [] => True
 | s :: l => FJ s ∧ I3 l
end
def I4 (l : List Stmt) : Prop := l.length ≤ 9223372036854775807 ∧ I3 l
theorem Dg:∀ {l:List Stmt}{s:Stmt},I3 l → s ∈ l → FJ s
 | a :: l, s, h, hm => by
  simp only [I3] at h
  rcases List.mem_cons.1 hm with rfl|hm
  ·exact h.1
  ·exact Dg h.2 hm
theorem Mm {l:List Stmt}{k:Nat}(h:I4 l) (hk:k < l.length):FJ l[k]! := Dg h.2 (aN l k hk)
theorem Mv {s:Stmt}(h:FJ s):I4 s.th ∧ I4 s.el:=by
 cases s
 simp only [FJ] at h
 exact h
theorem Gw:∀ {l:List Stmt},(∀ s ∈ l,FJ s) → I3 l
 | [],_ => by simp only [I3]
 | s :: l,h => by simp only [I3]; exact ⟨h s (by simp),Gw fun x hx => h x (by simp [hx])⟩
def m9 : List Stmt → Nat
 | [] => 0
 | s :: l => aU s.th + aU s.el + m9 l
theorem Gx:∀ l:List Stmt,aU l = l.length + m9 l
 | [] => by simp [aU,m9]
 | s :: l => by
  have := Gx l
  simp only [aU,m9,l3,List.length_cons]; omega
theorem tD:∀ a b:List Stmt,m9 (a ++ b) = m9 a + m9 b
 | [],b => by simp [m9]
 | s :: a, b => by
  have := tD a b
  simp only [List.cons_append,m9]; omega
theorem Em {l:List Stmt}{k:Nat}(hk:k < l.length):m9 (l.take (k + 1)) = m9 (l.take k) + (aU l[k]!.th + aU l[k]!.el):=by
 have e : l.take (k + 1) = l.take k ++ [l[k]!] := by rw [aS _ _ hk,List.take_succ_eq_append_getElem hk]
 rw [e,tD]; simp only [m9]; omega
theorem Kr (l:List Stmt) (k:Nat):m9 (l.take k) ≤ m9 l:=by
 have := tD (l.take k) (l.drop k)
 rw [List.take_append_drop] at this;omega
def Gi (c left : Int) : Int := if c ≤ left then left - c else -1
def OI : Stmt := .mk 0 0 0 0 [] []
theorem HF {w:World}{bad:Nat → Prop}{ι:Pl}{b:Nat}:∀ (m β:Nat),RdC w bad ι ((List.replicate m ([Value.int .i64 0,.int .i64 0,.int .i64 0,.int .i64 0,.slice none 0 0,.slice none 0 0].map AV.v)).flatten) b β → RdC w bad ι (flat aY (List.replicate m OI)) b β
 | 0,_,_ => trivial
 | m + 1, β, h => by
  rw [List.replicate_succ,List.flatten_cons] at h
  rw [List.replicate_succ]
  obtain ⟨g0,g1,g2,g3,⟨x4,p4,q4,r4⟩,⟨x5,p5,q5,r5⟩,h4⟩ := h
  exact ⟨g0,g1,g2,g3,⟨x4,p4,q4,lS (av := .v (.slice none 0 0)) r4⟩,⟨x5,p5,q5,lS (av := .v (.slice none 0 0)) r5⟩,HF m _ h4⟩
theorem Le.zeroS {ts:List (Nat × AV)}{hs:List (Nat × Option (List AV))}{n:Nat}{z0:Lo}{i m:Nat}(hi:aO hs i = some ((List.replicate m ([Value.int .i64 0,.int .i64 0,.int .i64 0,.int .i64 0,.slice none 0 0,.slice none 0 0].map AV.v)).flatten)) :
  Le ⟨ts,hs,n,z0⟩ ⟨ts,(i,some (flat aY (List.replicate m OI))) :: hs,n,z0⟩ :=
 Le.cells hi (by rw [aI aY (e := 6)]; simp) fun w bad ι b β h => HF m β h
end Go.AL
