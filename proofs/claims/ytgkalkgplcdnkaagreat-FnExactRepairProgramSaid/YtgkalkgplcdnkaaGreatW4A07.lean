/-
 A part of the proofs over this program: rules and contracts of its functions (the rules).
-/
import Derived.Test.YtgkalkgplcdnkaaGreatW4A06
import Derived.MapKept
import Derived.Orders
import Derived.Sort.Grow
import Derived.Laws.IdiomCopy
import Derived.StillTail
set_option linter.unusedVariables false
set_option linter.unusedSimpArgs false
namespace Go.AL
open Go.RowKit
section
variable {P : Program} {N : Nat} {Q : Exit → AS → Prop} {all : Array Oper} {rest : List Oper} {ts : List (Nat × AV)} {hs : List (Nat × Option (List AV))} {n : Nat} {z0 : Lo} {md : Md}
variable {d : Nat} {ty : TypeId} {pos : String} {af : Array Edge}
theorem CE (w:World) (t el:TypeId) (hu:P.underlying t = some (.slice el)) (a:Option Addr) (m c:Nat):(binOp .eql t (.slice a m c) (.slice none 0 0)).run P w = .ok (.bool a.isNone) w:=by
 have h0 : ∀ d : Nat, (Op.equalIn (d + 1) t (.slice a m c) (.slice none 0 0)).run P w = .ok a.isNone w := fun d => by
  cases a <;> simp [Op.equalIn,bX hu]
 have h := h0 9999
 simp only [binOp]
 simp [Op.equal,Op.maxDepth,h]
theorem vN {t t' el:TypeId}{x:Operand}{m:Nat}{cs:List AV}[ht:SlT P t el] (hx:ev (lk ts) x = some (.imm m cs)) (hN:Nat.blt d N = true)
  (kk : ∀ b : Bool,(b = true → m = 0) → RW P N all Q .txt rest ⟨(d,.v (.bool b)) :: ts,hs,n,z0⟩) : RW P N all Q .txt (⟨some d,.binOp .eql t x (.const (.slice none 0 0)) t',ty,pos,af,none⟩ :: rest) ⟨ts,hs,n,z0⟩ := by
 rintro C a w hCN ⟨h0,ι,g,gh⟩
 refine wpList_plain rfl (fun K hK => ?_)
 have h1 := b0 g hx
 simp only [Rd] at h1
 obtain ⟨a',c,h2,h3⟩ := h1
 have hu := fN ht.pf
 have hb : a'.isNone = true → m = 0 := fun hn => by
  rcases h3 with h3 | ⟨b,o,_,rfl,_⟩
  ·exact h3
  ·cases hn
 have hg : (eqGuard .eql t x (.const (.slice none 0 0)) (.slice a' m c) (.slice none 0 0)).run P w = .ok () w := by simp [eqGuard]
 have hr : (execOp a.eval ⟨some d, .binOp .eql t x (.const (.slice none 0 0)) t', ty, pos, af, none⟩).run P w = .ok (.value (.bool a'.isNone)) w := by
  have e2 : a.eval (.const (.slice none 0 0)) = .slice none 0 0 := rfl
  simp only [execOp,h2,e2,Sem.run_bind,hg,Result.andThen_ok,CE w t el hu,Sem.run_pure]
 simp only [Oper.wp,hr,Oper.upon]
 refine hK _ _ (kk a'.isNone hb C _ _ hCN ⟨h0,ι,?_,gh⟩)
 show TG C ι (lk ((d,AV.v (.bool a'.isNone)) :: ts)) _ _ _
 rw [lC]
 exact g.put (by have := dL hN;omega) (by simp [Rd])
end
theorem uR {α:Type}{f:α → List AV}{e:Nat}[h:FlT f e] {xs:List α}{k:Nat}(hk:k < xs.length):fG (flat f xs) (0 + k * e) (flat f (xs.drop (k + 1))) = flat f (bI k xs) ++ flat f (xs.drop (xs.length - 1)):=by
 unfold fG bI
 have hl : (flat f (xs.drop (k + 1))).length = (xs.length - (k + 1)) * e := by rw [aI f (e := e),List.length_drop]
 rw [Nat.zero_add,hl,← Nat.add_mul,show k + (xs.length - (k + 1)) = xs.length - 1 by omega,eO f (e := e),← bS]
 congr 1
 have h4 : flat f xs = flat f (xs.take (xs.length - 1)) ++ flat f (xs.drop (xs.length - 1)) := by rw [bS,List.take_append_drop]
 have h5 : (flat f (xs.take (xs.length - 1))).length = (xs.length - 1) * e := by rw [aI f (e := e),List.length_take,Nat.min_eq_left (by omega)]
 rw [h4,← h5,List.drop_left]
theorem GH {α:Type}{f:α → List AV}{e:Nat}[h:FlT f e] {xs:List α}{k:Nat}{z:List AV}(hk:k < xs.length) (hz:z.length = e):fG (flat f (bI k xs) ++ flat f (xs.drop (xs.length - 1))) (0 + (xs.length - 1) * e) z = flat f (bI k xs) ++ z:=by
 have hd := bR hk
 have h1 : (flat f (bI k xs)).length = (xs.length - 1) * e := by rw [aI f (e := e)]; congr 1;omega
 have h2 : (flat f (xs.drop (xs.length - 1))).length = e := by rw [aI f (e := e),List.length_drop,show xs.length - (xs.length - 1) = 1 by omega,Nat.one_mul]
 unfold fG
 rw [Nat.zero_add,← h1,List.take_left,hz,List.drop_of_length_le (by rw [List.length_append,h2]; omega),List.append_nil]
theorem pU {α:Type}{f:α → List AV}{e:Nat}[h:FlT f e] {xs:List α}{k m:Nat}{z:List AV}(hk:k < xs.length) (hm:m = 1) (hz:z.length = e):fG (flat f (bI k xs) ++ flat f (xs.drop (xs.length - 1))) (0 + (xs.length - 1) * e) (List.replicate m z).flatten = flat f (bI k xs) ++ z:=by
 subst hm
 have e1 : (List.replicate 1 z).flatten = z := by simp
 rw [e1]; exact GH hk hz
theorem mX {α:Type}{f:α → List AV}{e:Nat}[h:FlT f e] {hs:List (Nat × Option (List AV))}{xs:List α}{i k n:Nat}(hH:aQ hs i = some (flat f xs)) (hn:n = xs.length - k):sCells (aQ hs) e (nJ (.own i (0 + k * e) n e)) = some (n,flat f (xs.drop k)):=by
 show ((aQ hs i).bind fun cs => if n * e ≤ (cs.drop (0 + k * e)).length then some (n,(cs.drop (0 + k * e)).take (n * e)) else none) = _
 rw [hH,Option.bind_some,Nat.zero_add]
 have h1 : (flat f xs).length = xs.length * e := aI f xs
 have h3 : (flat f xs).drop (k * e) = flat f (xs.drop k) := by
  have h4 : flat f xs = flat f (xs.take k) ++ flat f (xs.drop k) := by rw [bS,List.take_append_drop]
  have h5 : (flat f (xs.take k)).length = (xs.take k).length * e := aI f _
  by_cases hk : k ≤ xs.length
  ·rw [h4,← show (flat f (xs.take k)).length = k * e from by rw [h5,List.length_take]; congr 1;omega,List.drop_left]
  ·rw [List.drop_of_length_le (by rw [h1]; exact Nat.mul_le_mul_right _ (by omega)),List.drop_of_length_le (by omega)]; rfl
 rw [h3]
 have h2 : (flat f (xs.drop k)).length = (xs.length - k) * e := by rw [aI f (e := e),List.length_drop]
 rw [h2,hn,if_pos (Nat.le_refl _),List.take_of_length_le (by rw [h2]; exact Nat.le_refl _)]
theorem Hc {α:Type}{f:α → List AV}{e:Nat}[h:FlT f e] {hs:List (Nat × Option (List AV))}{xs:List α}{i n:Nat}(hH:aQ hs i = some (flat f xs)) (hn:n ≤ xs.length):sCells (aQ hs) e (nJ (.own i (0 + 0 * e) n e)) = some (n,flat f (xs.take n)):=by
 show ((aQ hs i).bind fun cs => if n * e ≤ (cs.drop (0 + 0 * e)).length then some (n,(cs.drop (0 + 0 * e)).take (n * e)) else none) = _
 rw [hH,Option.bind_some,Nat.zero_mul,Nat.zero_add,List.drop_zero,aI f (e := e),if_pos (Nat.mul_le_mul_right _ hn),eO f (e := e)]
theorem Ed {α:Type}{f:α → List AV}{e:Nat}[h:FlT f e] {xs:List α}{k m:Nat}(hk:k < xs.length) (hm:m = k):((flat f (xs.take k)).drop 0).take (m * e) ++ flat f (xs.drop (k + 1)) = flat f (bI k xs):=by
 subst hm
 have hl : (flat f (xs.take m)).length = m * e := by rw [aI f (e := e),List.length_take,Nat.min_eq_left (by omega)]
 rw [List.drop_zero,List.take_of_length_le (by rw [hl]; exact Nat.le_refl _),bS]; rfl
theorem cJ {T:Nat → Option AV}{x:Operand}{dd:Nat}{k:IntKind}{m:Int}{h:Nat}(hx:ev T x = some (.v (.int k m))) (e:m = (h:Int)):dZ T (some x) dd = some h:=by
 simp only [dZ,hx]; rw [if_pos (by omega)]; congr 1;omega
structure Tg where
 id : Int
 uq : Bool
 deriving Inhabited,DecidableEq
structure Cl where
 val : Int
 alive : Bool
 next : Int
 stk : List Tg
 deriving Inhabited,DecidableEq
structure Pt where
 cell : Int
 tag : Int
 deriving Inhabited,DecidableEq
structure Sl where
 set : Bool
 num : Int
 ptr : Pt
 deriving Inhabited,DecidableEq
def GA (t : Tg) : List AV := [iv t.id,bv t.uq]
def Ga (c : Cl) : List AV := [iv c.val,bv c.alive,iv c.next,sl GA c.stk]
def Km (s : Sl) : List AV := [bv s.set,iv s.num,iv s.ptr.cell,iv s.ptr.tag]
instance : FlT GA 2:=⟨fun _ => rfl⟩
instance : FlT Ga 4:=⟨fun _ => rfl⟩
instance : FlT Km 4:=⟨fun _ => rfl⟩
instance : FE GA (fun t => [iv t.id,bv t.uq]):=⟨fun _ => rfl⟩
instance : FE Ga (fun c => [iv c.val,bv c.alive,iv c.next,sl GA c.stk]):=⟨fun _ => rfl⟩
instance : FE Km (fun s => [bv s.set,iv s.num,iv s.ptr.cell,iv s.ptr.tag]):=⟨fun _ => rfl⟩
instance (t : Tg) : Pur (GA t):=⟨rfl⟩
instance (c : Cl) : Pur (Ga c):=⟨by show (true && (true && (true && ((sl GA c.stk).pur && true)))) = true;rw [bD]; rfl⟩
instance (s : Sl) : Pur (Km s):=⟨rfl⟩
def JC (c : Cl) : Prop := c.stk.length = 200 ∨ c.next = 1000
instance (c : Cl) : Decidable (JC c) := by unfold JC;infer_instance
structure Mc where
 slots : List Sl
 cells : List Cl
 read : List Int
 deriving Inhabited
end Go.AL
namespace Go.AL
structure Co where
 val : Int
 alive : Bool
 next : Int
 av : AV
instance : Inhabited Co:=⟨⟨0,false,0,.imm 0 []⟩⟩
def EP (c : Co) : List AV := [iv c.val,bv c.alive,iv c.next,c.av]
instance : FlT EP 4:=⟨fun _ => rfl⟩
instance : FE EP (fun c => [iv c.val,bv c.alive,iv c.next,c.av]):=⟨fun _ => rfl⟩
def HR (c : Cl) : Co := ⟨c.val,c.alive,c.next,sl GA c.stk⟩
def opn (m : List Cl) (j : Nat) (X : AV) : List Co := (m.map HR).set j { HR m[j]! with av := X }
theorem lN (m:List Cl):flat EP (m.map HR) = flat Ga m:=by
 unfold flat;rw [List.flatMap_map]; rfl
theorem pS {m:List Cl}{j:Nat}{X:AV}(h:j < m.length):flat EP (opn m j X) = flat Ga (m.take j) ++ ([iv m[j]!.val,bv m[j]!.alive,iv m[j]!.next] ++ X :: flat Ga (m.drop (j + 1))):=by
 unfold opn
 rw [List.set_eq_take_append_cons_drop,if_pos (by rw [List.length_map]; exact h),← bS,← List.map_take,lN,← List.map_drop]
 congr 1
 show EP _ ++ flat EP _ = _
 rw [lN]; rfl
theorem sI {m:List Cl}{j:Nat}{X:AV}(h:j < m.length):flat EP (opn m j X) = (flat Ga (m.take j) ++ [iv m[j]!.val,bv m[j]!.alive,iv m[j]!.next]) ++ X :: flat Ga (m.drop (j + 1)):=by
 rw [pS h,List.append_assoc]
theorem Ev {m:List Cl}{j:Nat}{r:List Tg}:flat EP (opn m j (sl GA r)) = flat Ga (m.set j { m[j]! with stk := r }):=by
 rw [← lN,List.map_set]; rfl
theorem Le.cls {ts:List (Nat × AV)}{hs:List (Nat × Option (List AV))}{n:Nat}{z0:Lo}{o q j k:Nat}{m:List Cl}{r:List Tg}(hj:aQ hs o = some (flat EP (opn m j (.own q 0 k 2)))) (hq:aQ hs q = some (flat GA r)) (hk:k = r.length) (hjm:j < m.length) (hoq:o ≠ q) :
  Le ⟨ts,hs,n,z0⟩ ⟨ts,(o,some (flat Ga (m.set j { m[j]! with stk := r }))) :: (q,none) :: hs,n,z0⟩ := by
 subst hk
 rw [sI hjm] at hj
 have h := Le.frzC (ts := ts) (n := n) (z0 := z0) _ hj hq hoq
 rw [← Ev,sI hjm]; exact h
theorem uO {ρ:Nat → Option Nat}{m:List Cl}{j k i i':Nat}(hr:ρ i = some i'):RnL ρ (flat EP (opn m j (.own i 0 k 2))) (flat EP (opn m j (.own i' 0 k 2))):=by
 by_cases h : j < m.length
 ·rw [pS h, pS h]
  exact RnL.app (RnL.purI inferInstance) (RnL.app (RnL.purI inferInstance) (RnL.cons (RnV.own hr) (RnL.purI inferInstance)))
 ·have e : ∀ X, opn m j X = m.map HR := fun X => List.set_eq_of_length_le (by rw [List.length_map]; omega)
  rw [e,e,lN]
  exact RnL.purI inferInstance
end Go.AL
namespace Go.AL
section
variable {ts : List Int} {pts : List Pnt} {a : Nat} {s : Mc}
theorem IJ {f:Flows ts pts}{i:Iss}(ha:a < pts.length) (h:i ∈ zC ts pts f.Aa f.Am f.Al f.Af f.Ap a):i ∈ f.iss := List.mem_flatMap.2 ⟨a,List.mem_range.2 ha,h⟩
end
open Go.RowKit Go.MapKept
theorem Fr.trans2 {W0 W1:Nat → Prop}{w0 w w':World}(h:Fr W0 w0 w) (k:Fr W1 w w') (hW:∀ b,W1 b → W0 b ∨ w0.heap.size ≤ b):Fr W0 w0 w' :=
 ⟨k.os.trans h.os, k.tape.trans h.tape, k.output.trans h.output, Nat.le_trans h.size k.size, fun b hb hw => by
  rw [k.block b (Nat.lt_of_lt_of_le hb h.size) (fun q => (hW b q).elim hw (fun h => by omega))]; exact h.block b hb hw,fun b => Nat.le_trans (h.bs b) (k.bs b)⟩
section
variable {P : Program} {N : Nat} {Q : Exit → AS → List Int → Prop} {s : AS} {r : Nat} {ks : List Int}
variable {all : Array Oper}
theorem Fp {o:Oper}{a:Act}{w:World}{K K':Act → World → Prop}{Q1 Q2:Exit → Act → World → Prop}(h:∀ a w,K a w → K' a w) (hq:∀ e a w,Q1 e a w → e = .normal)
  (hh : o.wp P a w K Q1) : o.wp P a w K' Q2 := by
 have hL : ¬ LetsOut Q1 := fun ⟨a,w,q⟩ => by cases hq _ _ _ q
 unfold Oper.wp at *
 generalize (execOp a.eval o).run P w = z at *
 cases z with
 | ok n w' =>
  cases n <;> simp only [Oper.upon] at hh ⊢ <;>
   first
    | exact h _ _ hh
    | exact Calls.mono hh (fun e w'' he => by cases e <;> first|exact h _ _ he|(cases hq _ _ _ he)|exact absurd he hL)
    | exact Rows.mono hh (fun _ _ he => h _ _ he)
 | halt x w' => cases x <;> simp only [Oper.upon] at hh ⊢ <;> (cases hq _ _ _ hh)
theorem jL {Q1 Q2:Exit → Act → World → Prop}{l2:List Oper}(k:∀ e a w,Q1 e a w → e = .normal ∧ wpList P all Q2 l2 a w):∀ (l1:List Oper) (a:Act) (w:World),wpList P all Q1 l1 a w → wpList P all Q2 (l1 ++ l2) a w
 | [],a,w,h => (k _ _ _ h).2
 | o :: l1, a, w, h => by
  have hL : ¬ LetsOut Q1 := fun ⟨a,w,q⟩ => by cases (k _ _ _ q).1
  rw [List.cons_append]
  unfold wpList at h ⊢
  split
  ·rename_i hw
   rw [if_pos hw] at h
   rcases h with h | ⟨_,h⟩
   ·exact .inl (Fp (fun a w => jL k l1 a w) (fun e a w q => (k e a w q).1) h)
   ·exact absurd h hL
  ·rename_i hw;rw [if_neg hw] at h;exact jL k l1 _ _ h
variable {rest : List Oper} {ts : List (Nat × AV)} {hs : List (Nat × Option (List AV))} {n : Nat} {z0 : Lo} {d : Nat} {ty : TypeId} {pos : String} {af : Array Edge}
end
open Go.Sort
end Go.AL
namespace Go.AL
theorem wV {p:Prg}(h:bZ p = true):bV p.types = true ∧ okL p.types 4 p.body = true ∧ aJ p.body ≤ 30:=by
 unfold bZ at h
 simp only [Bool.and_eq_true,decide_eq_true_eq] at h
 exact ⟨h.1.1,h.1.2,h.2⟩
mutual
def Ch : Stmt → Prop
 | .mk _ _ _ _ th el => (th.length ≤ 9223372036854775807 ∧ Gc th) ∧ (el.length ≤ 9223372036854775807 ∧ Gc el)
def Gc : List Stmt → Prop
 | [] => True
 | s :: l => Ch s ∧ Gc l
end
def Dr (l : List Stmt) : Prop := l.length ≤ 9223372036854775807 ∧ Gc l
theorem AZ:∀ {l:List Stmt}{s:Stmt},Gc l → s ∈ l → Ch s
 | a :: l, s, h, hm => by
  simp only [Gc] at h
  rcases List.mem_cons.1 hm with rfl|hm
  ·exact h.1
  ·exact AZ h.2 hm
theorem Io {l:List Stmt}{k:Nat}(h:Dr l) (hk:k < l.length):Ch l[k]! := AZ h.2 (bU l k hk)
theorem I2 {s:Stmt}(h:Ch s):Dr s.th ∧ Dr s.el:=by
 cases s
 simp only [Ch] at h
 exact h
theorem Dw:∀ {l:List Stmt},(∀ s ∈ l,Ch s) → Gc l
 | [],_ => by simp only [Gc]
 | s :: l,h => by simp only [Gc]; exact ⟨h s (by simp),Dw fun x hx => h x (by simp [hx])⟩
def lR : List Stmt → Nat
 | [] => 0
 | s :: l => aJ s.th + aJ s.el + lR l
theorem Eb:∀ l:List Stmt,aJ l = l.length + lR l
 | [] => by simp [aJ,lR]
 | s :: l => by
  have := Eb l
  simp only [aJ,lR,fT,List.length_cons]; omega
theorem rD:∀ a b:List Stmt,lR (a ++ b) = lR a + lR b
 | [],b => by simp [lR]
 | s :: a, b => by
  have := rD a b
  simp only [List.cons_append,lR]; omega
theorem Da {l:List Stmt}{k:Nat}(hk:k < l.length):lR (l.take (k + 1)) = lR (l.take k) + (aJ l[k]!.th + aJ l[k]!.el):=by
 have e : l.take (k + 1) = l.take k ++ [l[k]!] := by rw [bG _ _ hk,List.take_succ_eq_append_getElem hk]
 rw [e,rD]; simp only [lR]; omega
theorem Hg (l:List Stmt) (k:Nat):lR (l.take k) ≤ lR l:=by
 have := rD (l.take k) (l.drop k)
 rw [List.take_append_drop] at this;omega
def Fq (c left : Int) : Int := if c ≤ left then left - c else -1
def J7 : Stmt := .mk 0 0 0 0 [] []
theorem D1 {w:World}{bad:Nat → Prop}{ι:Pl}{b:Nat}:∀ (m β:Nat),RdC w bad ι ((List.replicate m ([Value.int .i64 0,.int .i64 0,.int .i64 0,.int .i64 0,.slice none 0 0,.slice none 0 0].map AV.v)).flatten) b β → RdC w bad ι (flat aF (List.replicate m J7)) b β
 | 0,_,_ => trivial
 | m + 1, β, h => by
  rw [List.replicate_succ,List.flatten_cons] at h
  rw [List.replicate_succ]
  obtain ⟨g0,g1,g2,g3,⟨x4,p4,q4,r4⟩,⟨x5,p5,q5,r5⟩,h4⟩ := h
  exact ⟨g0,g1,g2,g3,⟨x4,p4,q4,jR (av := .v (.slice none 0 0)) r4⟩,⟨x5,p5,q5,jR (av := .v (.slice none 0 0)) r5⟩,D1 m _ h4⟩
theorem Le.zeroS {ts:List (Nat × AV)}{hs:List (Nat × Option (List AV))}{n:Nat}{z0:Lo}{i m:Nat}(hi:aQ hs i = some ((List.replicate m ([Value.int .i64 0,.int .i64 0,.int .i64 0,.int .i64 0,.slice none 0 0,.slice none 0 0].map AV.v)).flatten)) :
  Le ⟨ts,hs,n,z0⟩ ⟨ts,(i,some (flat aF (List.replicate m J7))) :: hs,n,z0⟩ :=
 Le.cells hi (by rw [aI aF (e := 6)]; simp) fun w bad ι b β h => D1 m β h
inductive TrH (w : World) : List Stmt → Value → List Nat → Prop
 | nil {a : Option Addr} {c : Nat} : TrH w [] (.slice a 0 c) []
 | cons {l : List Stmt} {b o c : Nat} {arr : Array Value} {ty : TypeId} {B : List Nat} (v4 v5 : Nat → Value) (B4 B5 : Nat → List Nat) : 0 < l.length → l.length ≤ c → w.heap[b]? = some (.cells arr ty (0, 0)) → o + c * 6 ≤ arr.size →
  (∀ i, i < l.length → w.cell? ⟨b, o + i * 6, none⟩ = some (.int .i64 l[i]!.op) ∧ w.cell? ⟨b, o + i * 6 + 1, none⟩ = some (.int .i64 l[i]!.x) ∧ w.cell? ⟨b, o + i * 6 + 2, none⟩ = some (.int .i64 l[i]!.y) ∧
   w.cell? ⟨b,o + i * 6 + 3,none⟩ = some (.int .i64 l[i]!.n) ∧ w.cell? ⟨b,o + i * 6 + 4,none⟩ = some (v4 i) ∧ w.cell? ⟨b,o + i * 6 + 5,none⟩ = some (v5 i)) →
  (∀ i,i < l.length → TrH w l[i]!.th (v4 i) (B4 i)) → (∀ i,i < l.length → TrH w l[i]!.el (v5 i) (B5 i)) → B = b :: (List.range l.length).flatMap (fun i => B4 i ++ B5 i) →
  TrH w l (.slice (some ⟨b,o,none⟩) l.length c) B
theorem TrH.one {w:World}{l:List Stmt}{v:Value}{B:List Nat}(h:TrH w l v B):v.oneCell' = true := by cases h <;> rfl
theorem TrH.lt {w:World}{l:List Stmt}{v:Value}{B:List Nat}(h:TrH w l v B):∀ b ∈ B,b < w.heap.size:=by
 induction h with
 | nil => intro b hb;cases hb
 | cons v4 v5 B4 B5 h1 h2 h3 h4 h5 h6 h7 h8 ih6 ih7 =>
  subst h8
  intro b hb
  rcases List.mem_cons.1 hb with rfl|hb
  ·exact cL h3
  ·obtain ⟨i, hi, hb⟩ := List.mem_flatMap.1 hb
   rw [List.mem_range] at hi
   rcases List.mem_append.1 hb with hb|hb
   ·exact ih6 i hi b hb
   ·exact ih7 i hi b hb
theorem TrH.stay {w w':World}{l:List Stmt}{v:Value}{B:List Nat}(h:TrH w l v B):(∀ b ∈ B,w'.heap[b]? = w.heap[b]?) → TrH w' l v B:=by
 induction h with
 | nil => intro _; exact .nil
 | @cons l b o c arr ty B v4 v5 B4 B5 h1 h2 h3 h4 h5 h6 h7 h8 ih6 ih7 =>
  subst h8
  intro hs
  have hb := hs b (List.mem_cons_self)
  have e : ∀ q,w'.cell? ⟨b,q,none⟩ = w.cell? ⟨b,q,none⟩ := fun q => b6 hb q
  refine .cons v4 v5 B4 B5 h1 h2 (by rw [hb]; exact h3) h4 (fun i hi => ?_) (fun i hi => ih6 i hi fun q hq => hs q (List.mem_cons_of_mem _ (List.mem_flatMap.2 ⟨i,List.mem_range.2 hi,List.mem_append.2 (.inl hq)⟩))) (fun i hi => ih7 i hi fun q hq => hs q (List.mem_cons_of_mem _ (List.mem_flatMap.2 ⟨i,List.mem_range.2 hi,List.mem_append.2 (.inr hq)⟩))) rfl
  simp only [e]
  exact h5 i hi
theorem RdC_stm {w:World}{bad:Nat → Prop}{ι:Pl}{b:Nat}:∀ (l:List Stmt) (o:Nat),(∀ i,i < l.length → RdC w bad ι (aF l[i]!) b (o + i * 6)) → RdC w bad ι (flat aF l) b o
 | [],_,_ => by simp only [flat,List.flatMap_nil,RdC]
 | s :: l, o, h => by
  have e : flat aF (s :: l) = aF s ++ flat aF l := by simp only [flat,List.flatMap_cons]
  rw [e]
  have h0 := h 0 (by simp)
  refine RdC.append (by simpa using h0) (RdC_stm l _ fun i hi => ?_)
  have hi' := h (i + 1) (by simpa using hi)
  have e6 : (aF s).length = 6 := by rw [eV]; rfl
  rw [e6,show o + 6 + i * 6 = o + (i + 1) * 6 from by omega]
  simpa using hi'
theorem TrH.rd {w:World}{bad:Nat → Prop}{ι:Pl}{l:List Stmt}{v:Value}{B:List Nat}(h:TrH w l v B):(∀ b ∈ B,¬ bad b) → Rd w bad ι (sl aF l) v:=by
 induction h with
 | @nil a c =>
  intro _
  show Rd w bad ι (.imm 0 _) _
  simp only [Rd]
  exact ⟨a,c,rfl,.inl trivial⟩
 | @cons l b o c arr ty B v4 v5 B4 B5 h1 h2 h3 h4 h5 h6 h7 h8 ih6 ih7 =>
  subst h8
  intro hb
  show Rd w bad ι (.imm l.length _) _
  simp only [Rd]
  refine ⟨_,c,rfl,.inr ⟨b,o,h2,rfl,.inr ⟨hb b (List.mem_cons_self),RdC_stm _ _ fun i hi => ?_⟩⟩⟩
  obtain ⟨c0,c1,c2,c3,c4,c5⟩ := h5 i hi
  have r6 := ih6 i hi fun q hq => hb q (List.mem_cons_of_mem _ (List.mem_flatMap.2 ⟨i,List.mem_range.2 hi,List.mem_append.2 (.inl hq)⟩))
  have r7 := ih7 i hi fun q hq => hb q (List.mem_cons_of_mem _ (List.mem_flatMap.2 ⟨i,List.mem_range.2 hi,List.mem_append.2 (.inr hq)⟩))
  rw [eV]
  simp only [RdC]
  exact ⟨⟨_,c0,rfl,by simp only [Rd]⟩,⟨_,c1,rfl,by simp only [Rd]⟩,⟨_,c2,rfl,by simp only [Rd]⟩,⟨_,c3,rfl,by simp only [Rd]⟩,⟨_,c4,(h6 i hi).one,r6⟩,⟨_,c5,(h7 i hi).one,r7⟩,trivial⟩
inductive TrI (w : World) : List Int → Value → List Nat → Prop
 | nil {a : Option Addr} {c : Nat} : TrI w [] (.slice a 0 c) []
 | cons {l : List Int} {b o c : Nat} {arr : Array Value} {ty : TypeId} : 0 < l.length → l.length ≤ c → w.heap[b]? = some (.cells arr ty (0, 0)) → o + c ≤ arr.size → (∀ i, i < l.length → w.cell? ⟨b, o + i, none⟩ = some (.int .i64 l[i]!)) →
  TrI w l (.slice (some ⟨b,o,none⟩) l.length c) [b]
theorem tK {w:World}{bad:Nat → Prop}{ι:Pl}{b:Nat}:∀ (zs:List Int) (o:Nat),(∀ j,j < zs.length → w.cell? ⟨b,o + j,none⟩ = some (.int .i64 zs[j]!)) → RdC w bad ι (flat cI zs) b o
 | [],_,_ => by simp only [flat,List.flatMap_nil,RdC]
 | x :: zs, o, h => by
  have h0 := h 0 (by simp)
  have e : flat cI (x :: zs) = iv x :: flat cI zs := rfl
  rw [e]
  simp only [RdC]
  refine ⟨⟨.int .i64 x,by simpa using h0,rfl,by simp only [Rd]⟩,tK zs (o + 1) fun j hj => ?_⟩
  have := h (j + 1) (by simpa using hj)
  rw [show o + 1 + j = o + (j + 1) from by omega]
  simpa using this
inductive TD
 | ints (l : List Int)
 | stms (l : List Stmt)
def TD.av : TD → AV
 | .ints l => sl cI l
 | .stms l => sl aF l
def TrX (w : World) : TD → Value → List Nat → Prop
 | .ints l,v,B => TrI w l v B
 | .stms l,v,B => TrH w l v B
theorem TrX.one {w:World}{t:TD}{v:Value}{B:List Nat}(h:TrX w t v B):v.oneCell' = true:=by
 cases t with
 | ints l => simp only [TrX] at h;cases h <;> rfl
 | stms l => simp only [TrX] at h;exact h.one
theorem TrX.lt {w:World}{t:TD}{v:Value}{B:List Nat}(h:TrX w t v B):∀ b ∈ B,b < w.heap.size:=by
 cases t with
 | ints l =>
  simp only [TrX] at h
  cases h with
  | nil => intro b hb;cases hb
  | cons h1 h2 h3 h4 h5 => intro b hb;rw [List.mem_singleton] at hb;subst hb;exact cL h3
 | stms l => simp only [TrX] at h;exact h.lt
theorem TrX.stay {w w':World}{t:TD}{v:Value}{B:List Nat}(h:TrX w t v B) (hs:∀ b ∈ B,w'.heap[b]? = w.heap[b]?):TrX w' t v B:=by
 cases t with
 | ints l =>
  simp only [TrX] at h ⊢
  cases h with
  | nil => exact .nil
  | @cons _ b _ _ _ _ h1 h2 h3 h4 h5 =>
   have hb := hs b (by simp)
   exact .cons h1 h2 (by rw [hb]; exact h3) h4 fun i hi => by rw [b6 hb]; exact h5 i hi
 | stms l => simp only [TrX] at h ⊢; exact h.stay hs
theorem TrX.rd {w:World}{bad:Nat → Prop}{ι:Pl}{t:TD}{v:Value}{B:List Nat}(h:TrX w t v B) (hb:∀ b ∈ B,¬ bad b):Rd w bad ι t.av v:=by
 cases t with
 | ints l =>
  simp only [TrX] at h
  cases h with
  | @nil a c =>
   show Rd w bad ι (.imm 0 _) _
   simp only [Rd]
   exact ⟨a,c,rfl,.inl trivial⟩
  | @cons _ b o c _ _ h1 h2 h3 h4 h5 =>
   show Rd w bad ι (.imm l.length _) _
   simp only [Rd]
   exact ⟨_,c,rfl,.inr ⟨b,o,h2,rfl,.inr ⟨hb b (by simp),tK _ _ h5⟩⟩⟩
 | stms l => simp only [TrX] at h;exact h.rd hb
abbrev dE := List (TD × Value × List Nat)
def bl (E : dE) : List Nat := E.flatMap fun t => t.2.2
theorem jP (E E2:dE):bl (E ++ E2) = bl E ++ bl E2 := by unfold bl;exact List.flatMap_append
structure TrE (E : dE) (w : World) : Prop where
 t : ∀ t ∈ E,TrX w t.1 t.2.1 t.2.2
 nd : (bl E).Nodup
theorem TrE.lt {E:dE}{w:World}(h:TrE E w):∀ b ∈ bl E,b < w.heap.size := fun b hb => by
 obtain ⟨t,ht,hb⟩ := List.mem_flatMap.1 hb
 exact (h.t t ht).lt b hb
theorem TrE.stay {E:dE}{w w':World}(h:TrE E w) (hs:∀ b ∈ bl E,w'.heap[b]? = w.heap[b]?):TrE E w' :=
 ⟨fun t ht => (h.t t ht).stay fun b hb => hs b (List.mem_flatMap.2 ⟨t,ht,hb⟩),h.nd⟩
theorem TrE.app {E E2:dE}{w:World}(h:TrE E w) (h2:TrE E2 w) (hd:∀ b ∈ bl E,b ∉ bl E2):TrE (E ++ E2) w :=
 ⟨fun t ht => (List.mem_append.1 ht).elim (h.t t) (h2.t t), by
  rw [jP,List.nodup_append]
  exact ⟨h.nd,h2.nd,fun a ha b hb e => hd a ha (e ▸ hb)⟩⟩
def fP (C : Ctx) (wb : World) (E : dE) (hX : ∀ b,C.X b ∨ b ∈ bl E → b < wb.heap.size) : Ctx :=
 { N := C.N,w0 := wb,W0 := fun b => (C.W0 b ∨ C.w0.heap.size ≤ b) ∧ b ∉ bl E,X := fun b => C.X b ∨ b ∈ bl E,ι0 := C.ι0,xlt := hX }
def GsT (C : Ctx) (s : AS) (E : dE) (a : Act) (w : World) : Prop :=
 ∃ (wb : World) (hX : ∀ b,C.X b ∨ b ∈ bl E → b < wb.heap.size),Fr C.W0 C.w0 wb ∧ (∀ b ∈ bl E,C.w0.heap.size ≤ b ∨ C.W0 b) ∧ (∀ b ∈ bl E,¬ C.X b) ∧ TrE E wb ∧ Gs (fP C wb E hX) s a w
theorem GsT.tree {C:Ctx}{s:AS}{E:dE}{a:Act}{w:World}(h:GsT C s E a w):TrE E w:=by
 obtain ⟨wb,hX,f,h1,h2,h3,h0,ι,g,gh⟩ := h
 exact h3.stay fun b hb => gh.fr.block b (h3.lt b hb) (fun q => q.2 hb)
def cC (P : Program) (N : Nat) (c : Code) (Q : Exit → AS → dE → Prop) (E : dE) (s : AS) : Prop :=
 ∀ (C : Ctx) (a : Act) (w : World),C.N = N → GsT C s E a w → c.wp P (fun e a' w' => ∃ s' E',Q e s' E' ∧ GsT C s' E' a' w') a w
def rV (P : Program) (N : Nat) (all : Array Oper) (Q : Exit → AS → dE → Prop) (E : dE) (l : List Oper) (s : AS) : Prop :=
 ∀ (C : Ctx) (a : Act) (w : World),C.N = N → GsT C s E a w → wpList P all (fun e a' w' => ∃ s' E',Q e s' E' ∧ GsT C s' E' a' w') l a w
def BN (K : AS → dE → Prop) (Q : Exit → AS → dE → Prop) : Exit → AS → dE → Prop
 | .normal,s,E => K s E
 | e,s,E => Q e s E
def JA (id : Nat) (Q : Exit → AS → dE → Prop) : Exit → AS → dE → Prop
 | .exit i,s,E => if i = id then Q .normal s E else Q (.exit i) s E
 | e,s,E => Q e s E
section
variable {P : Program} {N : Nat} {Q : Exit → AS → dE → Prop} {s : AS} {E : dE}
theorem awt_lift {c:Code}(h:AW P N c (fun e s' => Q e s' E) s):cC P N c Q E s:=by
 rintro C a w hN ⟨wb,hX,f,h1,h2,h3,g⟩
 exact wp_mono (h (fP C wb E hX) a w hN g) fun e a' w' ⟨s',q1,q2⟩ => ⟨s',E,q1,wb,hX,f,h1,h2,h3,q2⟩
theorem aN {x y:Code}(h:cC P N x (BN (fun s' E' => cC P N y Q E' s') Q) E s):cC P N (.seq x y) Q E s:=by
 intro C a w hN g
 refine wp_seq (wp_mono (h C a w hN g) ?_)
 rintro e a' w' ⟨s',ks',h1,h2⟩
 cases e with
 | normal => exact h1 C a' w' hN h2
 | _ => exact ⟨s',ks',h1,h2⟩
theorem fY {x y:Code}{c:Operand}{b:Bool}(hc:ev (lk s.ts) c = some (.v (.bool b))) (h1:b = true → cC P N x Q E s) (h2:b = false → cC P N y Q E s):cC P N (.cond c x y) Q E s:=by
 intro C a w hN gT
 have gT' := gT
 obtain ⟨wb,hX,f,q1,q2,q3,h0,ι,g,gh⟩ := gT'
 have h := b0 g hc
 simp only [Rd] at h
 cases b
 ·exact wp_cond_false h (h2 rfl C a w hN gT)
 ·exact wp_cond_true h (h1 rfl C a w hN gT)
theorem eM {id:Nat}{c:Code}(h:cC P N c (JA id Q) E s):cC P N (.block id c) Q E s:=by
 intro C a w hN g
 refine wp_block (wp_mono (h C a w hN g) ?_)
 rintro e a' w' ⟨s',ks',h1,h2⟩
 cases e with
 | exit i =>
  simp only [Exit.inBlock,JA] at h1 ⊢
  split
  ·rename_i hi;rw [if_pos hi] at h1;exact ⟨s',ks',h1,h2⟩
  ·rename_i hi;rw [if_neg hi] at h1;exact ⟨s',ks',h1,h2⟩
 | _ => exact ⟨s',ks',h1,h2⟩
theorem gX (h:Q .normal s E):cC P N .skip Q E s := fun C a w _ g => wp_skip ⟨s,E,h,g⟩
theorem p9 {id:Nat}(h:Q (.exit id) s E):cC P N (.exit id) Q E s := fun C a w _ g => wp_exit ⟨s,E,h,g⟩
theorem GsT.le {C:Ctx}{s s':AS}{E:dE}{a:Act}{w:World}(h:GsT C s E a w) (k:Le s s'):GsT C s' E a w:=by
 obtain ⟨wb,hX,f,h1,h2,h3,g⟩ := h
 exact ⟨wb,hX,f,h1,h2,h3,k _ _ _ g⟩
theorem IL {c:Code}{s':AS}(h:cC P N c Q E s') (k:Le s s'):cC P N c Q E s := fun C a w hN g => h C a w hN (g.le k)
theorem Dx {σ:Type}{c:Code}(p:σ → Prop) (I:σ → AS) (J:σ → dE) (μ:σ → Nat) (h0:∃ i,p i ∧ Le s (I i) ∧ J i = E)
  (round : ∀ i,p i → cC P N c (BN (fun s' E' => ∃ j,p j ∧ μ j < μ i ∧ Le s' (I j) ∧ J j = E') Q) (J i) (I i)) : cC P N (.loop c) Q E s := by
 intro C a w hN g
 obtain ⟨i,h1,h2,h3⟩ := h0
 subst h3
 refine wp_loop (fun a w => ∃ i,p i ∧ GsT C (I i) (J i) a w) (fun a w => nI fun n => ∃ i,p i ∧ GsT C (I i) (J i) a w ∧ μ i = n) ⟨i,h1,g.le h2⟩ ?_
 rintro a w ⟨i0,hp0,hg0⟩
 obtain ⟨⟨i,hp,hg,hm⟩,hmin⟩ := gI (S := fun n => ∃ i,p i ∧ GsT C (I i) (J i) a w ∧ μ i = n) ⟨_,i0,hp0,hg0,rfl⟩
 refine wp_mono (round i hp C a w hN hg) ?_
 rintro e a' w' ⟨s',ks',h3,h4⟩
 cases e with
 | normal =>
  obtain ⟨j,q1,q2,q3,rfl⟩ := h3
  have h5 : GsT C (I j) (J j) a' w' := h4.le q3
  refine ⟨⟨j,q1,h5⟩,?_⟩
  have := (gI (S := fun n => ∃ i,p i ∧ GsT C (I i) (J i) a' w' ∧ μ i = n) ⟨_,j,q1,h5,rfl⟩).2 (μ j) ⟨j,q1,h5,rfl⟩
  omega
 | _ => exact ⟨s',ks',h3,h4⟩
theorem aZ {id:Nat}{l:List Oper}(h:rV P N l.toArray Q E l s):cC P N (.region id l.toArray false) Q E s :=
 fun C a w hN g => wp_region_lit (h C a w hN g)
variable {all : Array Oper}
theorem aK (h:Q .normal s E):rV P N all Q E [] s := fun C a w _ g => wpList_nil ⟨s,E,h,g⟩
theorem aS {l1 l2:List Oper}(h:RW P N all (fun e s' => e = .normal ∧ rV P N all Q E l2 s') .txt l1 s):rV P N all Q E (l1 ++ l2) s:=by
 rintro C a w hN ⟨wb,hX,f,h1,h2,h3,g⟩
 exact jL (fun e a' w' ⟨s',⟨q1,q2⟩,q3⟩ => ⟨q1,q2 C a' w' hN ⟨wb,hX,f,h1,h2,h3,q3⟩⟩) l1 a w (h (fP C wb E hX) a w hN g)
theorem cX {o:Oper}{rest:List Oper}(h:RW P N all (fun e s' => e = .normal ∧ rV P N all Q E rest s') .txt [o] s):rV P N all Q E (o :: rest) s := aS (l1 := [o]) h
end
theorem zD {E:dE}{t:TD × Value × List Nat}(h:t ∈ E){b:Nat}(hb:b ∈ t.2.2):b ∈ bl E := List.mem_flatMap.2 ⟨t,h,hb⟩
theorem TG.carryC {C C':Ctx}{ι ι':Pl}{T:Nat → Option AV}{H H':Nat → Option (List AV)}{a:Act}{w w':World}(hN:C'.N = C.N) (h:TG C ι T H a w) (k:Carry w (aC C.X ι H) ι w' (aC C'.X ι' H') ι'):TG C' ι' T H' a w' :=
 ⟨h.df,h.sz.trans hN.symm,fun t av ht => let ⟨y,h1,h2⟩ := h.tm t av ht; ⟨y,h1,Rd.carry k _ _ h2⟩⟩
theorem GsT.drop {C:Ctx}{s:AS}{E:dE}{a:Act}{w:World}(h:GsT C s E a w):Gs C s a w:=by
 obtain ⟨wb,hX,f,h1,h2,h3,h0,ι,g,gh⟩ := h
 have hb : ∀ b, aC C.X ι (aQ s.hs) b → aC (fP C wb E hX).X ι (aQ s.hs) b := by
  rintro b (q|q)
  ·exact .inl (.inl q)
  ·exact .inr q
 have car : Carry w (aC (fP C wb E hX).X ι (aQ s.hs)) ι w (aC C.X ι (aQ s.hs)) ι := ⟨fun b o x q1 q2 => ⟨fun q => q1 (hb b q),q2⟩,fun _ _ h => h,fun _ => Nat.le_refl _⟩
 have hW : ∀ b,(fP C wb E hX).W0 b → C.W0 b ∨ C.w0.heap.size ≤ b := fun b q => q.1
 refine ⟨h0,ι,TG.carryC (C := fP C wb E hX) (C' := C) rfl g car,⟨fun id cs h => ?_,gh.sep,f.trans2 gh.fr hW,gh.ex,gh.fresh⟩⟩
 rcases gh.obj id cs h with q | ⟨b,β,arr,e,q1,q2,q3,q4,q5,q6⟩
 ·exact .inl q
 ·refine .inr ⟨b, β, arr, e, q1, q2, q3, RdC.carryB car _ _ _ (fun _ _ hx => hx) q4, fun q => q5 (.inl q), ?_⟩
  rcases q6 with q6|q6
  ·exact hW b q6
  ·exact .inr (Nat.le_trans f.size q6)
theorem GsT.grow {C:Ctx}{s:AS}{E E2:dE}{a:Act}{w w':World}(h:GsT C s E a w) (f':Fr (fun _ => False) w w') (ht:TrE E2 w') (hf:∀ b ∈ bl E2,w.heap.size ≤ b):GsT C s (E ++ E2) a w':=by
 have hT := h.tree
 obtain ⟨wb,hX,f,h1,h2,h3,h0,ι,g,gh⟩ := h
 have hW : ∀ b,(fP C wb E hX).W0 b → C.W0 b ∨ C.w0.heap.size ≤ b := fun b q => q.1
 have fw : Fr C.W0 C.w0 w := f.trans2 gh.fr hW
 have fw' : Fr C.W0 C.w0 w' := fw.trans2 f' (fun _ q => q.elim)
 have hblk : ∀ b,b < w.heap.size → w'.heap[b]? = w.heap[b]? := fun b hb => f'.block b hb (fun q => q)
 have hT' : TrE (E ++ E2) w' := (hT.stay fun b hb => hblk b (hT.lt b hb)).app ht fun b hb q => by
  have := hT.lt b hb
  have := hf b q
  omega
 have hX' : ∀ b, C.X b ∨ b ∈ bl (E ++ E2) → b < w'.heap.size := by
  rintro b (q|q)
  ·exact Nat.lt_of_lt_of_le (C.xlt b q) fw'.size
  ·exact hT'.lt b q
 have hbad : ∀ b, b < w.heap.size → aC (fP C w' (E ++ E2) hX').X ι (aQ s.hs) b → aC (fP C wb E hX).X ι (aQ s.hs) b := by
  rintro b hlt (q|q)
  ·rcases q with q | q
   ·exact .inl (.inl q)
   ·rw [jP, List.mem_append] at q
    rcases q with q|q
    ·exact .inl (.inr q)
    ·have := hf b q;omega
  ·exact .inr q
 have car : Carry w (aC (fP C wb E hX).X ι (aQ s.hs)) ι w' (aC (fP C w' (E ++ E2) hX').X ι (aQ s.hs)) ι := ⟨fun b o x q1 q2 => ⟨fun q => q1 (hbad b (eT q2) q),by rw [b6 (hblk b (eT q2))]; exact q2⟩,fun _ _ h => h,f'.bs⟩
 refine ⟨w',hX',fw',fun b hb => ?_,fun b hb hx => ?_,hT',h0,ι,TG.carryC (C := fP C wb E hX) (C' := fP C w' (E ++ E2) hX') rfl g car,⟨fun id cs h => ?_,gh.sep,Fr.refl _ _,gh.ex,gh.fresh⟩⟩
 ·rw [jP, List.mem_append] at hb
  rcases hb with hb|hb
  ·exact h1 b hb
  ·exact .inl (Nat.le_trans fw.size (hf b hb))
 ·rw [jP, List.mem_append] at hb
  rcases hb with hb|hb
  ·exact h2 b hb hx
  ·have := hf b hb
   have := C.xlt b hx
   have := fw.size
   omega
 ·rcases gh.obj id cs h with q | ⟨b, β, arr, e, q1, q2, q3, q4, q5, q6⟩
  ·exact .inl q
  ·have hlt := cL q2
   have hbl := hblk b hlt
   refine .inr ⟨b,β,arr,e,q1,by rw [hbl]; exact q2,q3,RdC.carryB car _ _ _ (fun o y hy => by rw [b6 hbl]; exact hy) q4,?_,.inl ⟨?_,?_⟩⟩
   ·rintro (q | q)
    ·exact q5 (.inl q)
    ·rw [jP, List.mem_append] at q
     rcases q with q|q
     ·exact q5 (.inr q)
     ·have := hf b q;omega
   ·rcases q6 with q6 | q6
    ·exact hW b q6
    ·exact .inr (Nat.le_trans f.size q6)
   ·intro q
    rw [jP,List.mem_append] at q
    rcases q with q|q
    ·exact q5 (.inr q)
    ·have := hf b q;omega
theorem GsT.of {C:Ctx}{s:AS}{a:Act}{w:World}(h:Gs C s a w):GsT C s [] a w:=by
 obtain ⟨h0,ι,g,gh⟩ := h
 have hX : ∀ b, C.X b ∨ b ∈ bl [] → b < w.heap.size := by
  rintro b (q|q)
  ·exact Nat.lt_of_lt_of_le (C.xlt b q) gh.fr.size
  ·cases q
 have hbad : ∀ b, aC (fP C w [] hX).X ι (aQ s.hs) b → aC C.X ι (aQ s.hs) b := by
  rintro b (q|q)
  ·rcases q with q | q
   ·exact .inl q
   ·cases q
  ·exact .inr q
 have car : Carry w (aC C.X ι (aQ s.hs)) ι w (aC (fP C w [] hX).X ι (aQ s.hs)) ι := ⟨fun b o x q1 q2 => ⟨fun q => q1 (hbad b q),q2⟩,fun _ _ h => h,fun _ => Nat.le_refl _⟩
 refine ⟨w,hX,gh.fr,fun b hb => (by cases hb),fun b hb => (by cases hb),⟨fun t ht => (by cases ht),List.nodup_nil⟩,h0,ι,TG.carryC (C := C) (C' := fP C w [] hX) rfl g car,⟨fun id cs h => ?_,gh.sep,Fr.refl _ _,gh.ex,gh.fresh⟩⟩
 rcases gh.obj id cs h with q | ⟨b,β,arr,e,q1,q2,q3,q4,q5,q6⟩
 ·exact .inl q
 ·refine .inr ⟨b, β, arr, e, q1, q2, q3, RdC.carryB car _ _ _ (fun _ _ hx => hx) q4, ?_, .inl ⟨q6, fun q => by cases q⟩⟩
  rintro (q|q)
  ·exact q5 q
  ·cases q
def oW (P : Program) (k : FuncId) (args : List AV) (R : AV → dE → Prop) : Prop :=
 ∀ (w : World) (bad : Nat → Prop) (vals : List Value), (∀ b, bad b → b < w.heap.size) → RdV w bad (fun _ => none) args vals →
  Calls P k vals.toArray w (fun e w' => ∃ v r E,e = .returned v ∧ R r E ∧ r.free = true ∧ Rd w' (fun _ => False) (fun _ => none) r v ∧ Fr (fun _ => False) w w' ∧ TrE E w' ∧ ∀ b ∈ bl E,w.heap.size ≤ b)
theorem cG {P:Program}{k:FuncId}{args:List AV}{r:AV}(h:PC P k args (fun x => x = r)) (hf:r.free = true):oW P k args (fun x E => x = r ∧ E = []):=by
 intro w bad vals hb hv
 let C' : Ctx := { N := 0,w0 := w,W0 := fun _ => False,X := bad,ι0 := fun _ => none,xlt := hb }
 have hbad : ∀ b,aC C'.X (fun _ => none) (aQ []) b → bad b := fun b q => (by rcases q with q | ⟨id,cs,β,q1,q2⟩ <;> first|exact q|cases q2)
 have g' : HG C' (fun _ => none) (fun j => 0 ≤ j) (aQ []) w :=
  ⟨fun id cs h => by simp [aQ] at h,fun id id' cs cs' b β β' h => by simp [aQ] at h,Fr.refl _ _,fun _ _ h => h,fun _ _ => rfl⟩
 have hcar : Carry w bad (fun _ => none) w (aC C'.X (fun _ => none) (aQ [])) (fun _ => none) := ⟨fun b o x h1 h2 => ⟨fun h => h1 (hbad b h),h2⟩,fun _ _ h => h,fun _ => Nat.le_refl _⟩
 refine (h C' _ w _ rfl rfl g' (RdV.carry hcar _ _ hv)).mono ?_
 rintro e w' ⟨v,r',H',ι',rfl,⟨rfl,_⟩,h4,h5⟩
 exact ⟨v,r',[],rfl,⟨rfl,rfl⟩,hf,Rd.free _ _ hf h4,h5.fr,⟨fun t ht => (by cases ht),List.nodup_nil⟩,fun b hb => (by cases hb)⟩
mutual
inductive LdT (E : dE) : AV → AV → Prop
 | pur {v : AV} : v.pur = true → LdT E v v
 | tree {t : TD} {y : Value} {B : List Nat} : (t,y,B) ∈ E → LdT E (.v y) t.av
 | agg {cs cs' : List AV} : LdTL E cs cs' → LdT E (.agg cs) (.agg cs')
inductive LdTL (E : dE) : List AV → List AV → Prop
 | nil : LdTL E [] []
 | cons {c c' : AV} {cs cs' : List AV} : LdT E c c' → LdTL E cs cs' → LdTL E (c :: cs) (c' :: cs')
end
section
variable {E : dE} {w : World} {bad bad2 : Nat → Prop} {ι : Pl}
mutual
theorem LdT.ok (hT:TrE E w) (h2:∀ b,bad2 b → bad b ∧ b ∉ bl E):∀ {v v':AV},LdT E v v' → ∀ {y:Value},Rd w bad ι v y → Rd w bad2 (fun _ => none) v' y
 | _,_,.pur hp,y,k => Rd.pur _ y hp (Rd.carry (⟨fun b o x q1 q2 => ⟨fun q => q1 (h2 b q).1,q2⟩,fun _ _ h => h,fun _ => Nat.le_refl _⟩ : Carry w bad ι w bad2 ι) _ _ k)
 | _, _, .tree (t := t) (y := y0) (B := B) hm, y, k => by
  simp only [Rd] at k
  subst k
  exact (hT.t _ hm).rd fun b hb q => (h2 b q).2 (zD hm hb)
 | _, _, .agg h3, y, k => by
  simp only [Rd] at k ⊢
  obtain ⟨l,q1,q2⟩ := k
  exact ⟨l,q1,LdTL.okL hT h2 h3 q2⟩
theorem LdTL.okL (hT:TrE E w) (h2:∀ b,bad2 b → bad b ∧ b ∉ bl E):∀ {v v':List AV},LdTL E v v' → ∀ {y:List Value},RdL w bad ι v y → RdL w bad2 (fun _ => none) v' y
 | _,_,.nil,y,k => by simpa only [RdL] using k
 | _, _, .cons q1 q2, y, k => by
  simp only [RdL] at k ⊢
  obtain ⟨x,l',rfl,p1,p2,p3⟩ := k
  exact ⟨x,l',rfl,p1,LdT.ok hT h2 q1 p2,LdTL.okL hT h2 q2 p3⟩
end
theorem LdTL.okV (hT:TrE E w) (h2:∀ b,bad2 b → bad b ∧ b ∉ bl E):∀ {v v':List AV},LdTL E v v' → ∀ {y:List Value},RdV w bad ι v y → RdV w bad2 (fun _ => none) v' y
 | _,_,.nil,y,k => by simpa only [RdV] using k
 | _, _, .cons q1 q2, y, k => by
  simp only [RdV] at k ⊢
  obtain ⟨x,l',rfl,p2,p3⟩ := k
  exact ⟨x,l',rfl,LdT.ok hT h2 q1 p2,LdTL.okV hT h2 q2 p3⟩
end
theorem GsT.put {C:Ctx}{ts:List (Nat × AV)}{hs:List (Nat × Option (List AV))}{n:Nat}{z0:Lo}{E:dE}{a:Act}{w:World}(h:GsT C ⟨ts,hs,n,z0⟩ E a w){d:Nat}(hd:d < C.N){r:AV}{v:Value}(hf:r.free = true){bad:Nat → Prop}{ι0:Pl}(hr:Rd w bad ι0 r v) :
  GsT C ⟨(d,r) :: ts,hs,n,z0⟩ E (a.put (some d) v) w := by
 obtain ⟨wb,hX,f,h1,h2,h3,h0,ι,g,gh⟩ := h
 refine ⟨wb,hX,f,h1,h2,h3,h0,ι,?_,gh⟩
 show TG (fP C wb E hX) ι (lk ((d,r) :: ts)) _ _ _
 rw [lC]
 exact g.put (C := fP C wb E hX) hd (Rd.free _ _ hf hr)
section
variable {P : Program} {N : Nat} {Q : Exit → AS → dE → Prop} {E : dE} {all : Array Oper} {rest : List Oper} {ts : List (Nat × AV)} {hs : List (Nat × Option (List AV))} {n : Nat} {z0 : Lo} {d : Nat} {ty : TypeId} {pos : String} {af : Array Edge}
theorem aM {k:FuncId}{args:Array Operand}{tys:Array TypeId}{avs avs2:List AV}{R:AV → dE → Prop}[hc:CaT P k] (ha:evL (lk ts) args.toList = some avs) (hl:LdTL E avs avs2) (h:oW P k avs2 R) (hN:Nat.blt d N = true)
  (kk : ∀ r E2,R r E2 → rV P N all Q (E ++ E2) rest ⟨(d,r) :: ts,hs,n,z0⟩) : rV P N all Q E (⟨some d,.call ⟨.value (.func k),args,tys⟩,ty,pos,af,none⟩ :: rest) ⟨ts,hs,n,z0⟩ := by
 intro C a w hCN gT
 refine wpList_plain rfl (fun K hK => ?_)
 simp only [Oper.wp,eW hc.pf,Oper.upon]
 have hT := gT.tree
 have gT' := gT
 obtain ⟨wb,hX,f,h1,h2,h3,h0,ι,g,gh⟩ := gT'
 have hv := gB g ha
 refine (h w (fun b => aC (fP C wb E hX).X ι (aQ hs) b ∧ b ∉ bl E) _ (fun b q => gh.bad_lt b q.1) (hl.okV hT (fun b q => q) hv)).mono ?_
 rintro e w' ⟨v,r,E2,rfl,hR,hf,hr,hfr,hT2,hfs⟩
 exact hK _ _ (kk r E2 hR C _ _ hCN ((gT.grow hfr hT2 hfs).put (hCN.symm ▸ dL hN) hf hr))
end
def xL (P : Program) (res : Array ResultVar) (R : AV → dE → Prop) (e : Exit) (s : AS) (E : dE) : Prop :=
 (e = .ret ∨ e = .normal) ∧ ∃ l, iQ P (lk s.ts) (aQ s.hs) res.toList = some l ∧ ∀ (C : Ctx) (ι : Pl) (F : Nat → Prop) (w : World) (y : Value), HG C ι F (aQ s.hs) w → Rd w (aC C.X ι (aQ s.hs)) ι (aR l) y → TrE E w →
  (∀ id cs b β,aQ s.hs id = some cs → ι id = some (some (b,β)) → b ∉ bl E) → ∃ r E',R r E' ∧ r.free = true ∧ Rd w (fun _ => False) (fun _ => none) r y ∧ TrE E' w ∧ ∀ b ∈ bl E',b ∈ bl E ∨ ∃ id cs β,aQ s.hs id = some cs ∧ ι id = some (some (b,β))
theorem cS {P:Program}{k:FuncId}{fn:Func}{c:Code}{args:List AV}{R:AV → dE → Prop}(hf:P.funcs[k]? = some fn) (hb:fn.body = some c) (hN:args.length ≤ fn.ntmps)
  (h : cC P fn.ntmps c (xL P fn.results R) [] ⟨dJ 0 args,[],0,⟨0,aY⟩⟩) : oW P k args R := by
 intro w bad vals hbd hr
 refine calls_of_wp hf hb ?_
 let C' : Ctx := { N := fn.ntmps,w0 := w,W0 := fun _ => False,X := bad,ι0 := fun _ => none,xlt := hbd }
 have hlen := RdV.length hr
 have hbad : ∀ b,aC C'.X (fun _ => none) (aQ []) b → bad b := fun b q => (by rcases q with q | ⟨id,cs,β,q1,q2⟩ <;> first|exact q|cases q2)
 have hcar : Carry w bad (fun _ => none) w (aC C'.X (fun _ => none) (aQ [])) (fun _ => none) := ⟨fun b o x h1 h2 => ⟨fun h => h1 (hbad b h),h2⟩,fun _ _ h => h,fun _ => Nat.le_refl _⟩
 have hr' := RdV.carry hcar _ _ hr
 have g' : HG C' (fun _ => none) (Fn 0 ⟨0, aY⟩) (aQ []) w :=
  ⟨fun id cs h => by simp [aQ] at h,fun id id' cs cs' b β β' h => by simp [aQ] at h,Fr.refl _ _,fun _ _ h => h,fun _ _ => rfl⟩
 have gt : TG C' (fun _ => none) (lk (dJ 0 args)) (aQ []) { tmps := vals.toArray ++ Array.replicate (fn.ntmps - vals.toArray.size) undef, defers := [] } w := by
  refine ⟨rfl,by simp [C',hlen]; omega,fun t av ht => ?_⟩
  obtain ⟨y,_,h1,h2⟩ := iZ hr' ht
  refine ⟨y,?_,h2⟩
  have hlt : t < vals.length := by
   rcases Nat.lt_or_ge t vals.length with q|q
   ·exact q
   ·rw [List.getElem?_eq_none (by simpa using q)] at h1;cases h1
  rw [Array.getElem?_append_left (by simpa using hlt)]
  simpa using h1
 have gs : Gs C' ⟨dJ 0 args,[],0,⟨0,aY⟩⟩ { tmps := vals.toArray ++ Array.replicate (fn.ntmps - vals.toArray.size) undef,defers := [] } w := ⟨fun id _ => .inr rfl,_,gt,g'⟩
 refine wp_mono (h C' _ w rfl (GsT.of gs)) ?_
 rintro e a' w' ⟨s1,E,⟨he,l,hres,hfin⟩,gT⟩
 have hT := gT.tree
 have gD := gT.drop
 have hfr : Fr (fun _ => False) w w' := by obtain ⟨_,_,_,gh⟩ := gD;exact gh.fr
 obtain ⟨wb,hX,f,h1,h2,h3,h0,ι,g1,g2⟩ := gT
 obtain ⟨ys,q1,q2⟩ := lO (P := P) g1 g2 hres
 have hres' : (results fn a'.tmps).run P w' = .ok (if h : ys.toArray.size = 1 then ys.toArray[0] else .tuple ys.toArray) w' := by
  have hr1 : results fn a'.tmps = (do let vs ← fn.results.mapM (rS a'); pure (if h : vs.size = 1 then vs[0] else .tuple vs)) := by
   unfold results
   congr 1
  rw [hr1,Array.mapM_eq_mapM_toList,Sem.run_bind,Sem.run_map,q1]
  simp only [Result.andThen_ok,Sem.run_pure]
 obtain ⟨r, E', p1, p2, p3, p4, p5⟩ := hfin (fP C' wb E hX) ι _ w' _ g2 (kP q2) hT (fun id cs b β r1 r2 r3 => by
  rcases g2.obj id cs r1 with ⟨q,_⟩ | ⟨b',β',arr,e',q,q4,q5,q6,q7,q8⟩
  ·rw [q] at r2;cases r2
  ·rw [q] at r2;cases r2;exact q7 (.inr r3))
 have hfs : ∀ b ∈ bl E', w.heap.size ≤ b := fun b hb => by
  rcases p5 b hb with q | ⟨id,cs,β,r1,r2⟩
  ·rcases h1 b q with q | q
   ·exact q
   ·exact q.elim
  ·rcases g2.obj id cs r1 with ⟨q, _⟩ | ⟨b', β', arr, e', q, q4, q5, q6, q7, q8⟩
   ·rw [q] at r2;cases r2
   ·rw [q] at r2; cases r2
    rcases q8 with q8|q8
    ·rcases q8.1 with q | q
     ·exact q.elim
     ·exact q
    ·exact Nat.le_trans f.size q8
 rcases he with rfl|rfl
 ·exact ⟨g1.df,_,hres',_,r,E',rfl,p1,p2,p3,hfr,p4,hfs⟩
 ·exact ⟨g1.df,_,hres',_,r,E',rfl,p1,p2,p3,hfr,p4,hfs⟩
theorem mU {w:World}{bad:Nat → Prop}{ι:Pl}{b:Nat}:∀ (zs:List Int) (o:Nat),RdC w bad ι (flat cI zs) b o → ∀ j,j < zs.length → w.cell? ⟨b,o + j,none⟩ = some (.int .i64 zs[j]!)
 | [],_,_,j,hj => by simp at hj
 | x :: zs, o, h, j, hj => by
  have e : flat cI (x :: zs) = iv x :: flat cI zs := rfl
  rw [e] at h
  simp only [RdC] at h
  obtain ⟨⟨v,h1,_,h3⟩,h4⟩ := h
  simp only [Rd] at h3
  subst h3
  cases j with
  | zero => simpa using h1
  | succ j =>
   have := mU zs (o + 1) h4 j (by simpa using hj)
   rw [show o + (j + 1) = o + 1 + j from by omega]
   simpa using this
abbrev SX := Stmt × (Value × List Nat) × (Value × List Nat)
def cT (x : SX) : List AV := [iv x.1.op,iv x.1.x,iv x.1.y,iv x.1.n,.v x.2.1.1,.v x.2.2.1]
instance : FlT cT 6:=⟨fun _ => rfl⟩
instance : FE cT (fun x => [iv x.1.op,iv x.1.x,iv x.1.y,iv x.1.n,.v x.2.1.1,.v x.2.2.1]):=⟨fun _ => rfl⟩
instance (x : SX) : Pur (cT x):=⟨rfl⟩
def eN (xs : List SX) : dE := xs.flatMap fun x => [(.stms x.1.th,x.2.1.1,x.2.1.2),(.stms x.1.el,x.2.2.1,x.2.2.2)]
theorem b8 (xs:List SX) (x:SX):eN (xs ++ [x]) = eN xs ++ [(.stms x.1.th,x.2.1.1,x.2.1.2),(.stms x.1.el,x.2.2.1,x.2.2.2)]:=by
 unfold eN;rw [List.flatMap_append]; simp
theorem y8 (xs:List SX):bl (eN xs) = (List.range xs.length).flatMap fun i => xs[i]!.2.1.2 ++ xs[i]!.2.2.2:=by
 have e : xs = (List.range xs.length).map fun i => xs[i]! := by
  refine List.ext_getElem (by simp) fun i h1 h2 => ?_
  rw [List.getElem_map,List.getElem_range,bG _ _ h1]
 have : bl (eN xs) = xs.flatMap fun x => x.2.1.2 ++ x.2.2.2 := by
  unfold bl eN
  rw [List.flatMap_assoc]
  congr 1
  funext x
  simp
 rw [this]
 conv => lhs;rw [e,List.flatMap_map]
theorem uV {w : World} {bad : Nat → Prop} {ι : Pl} {b : Nat} : ∀ (xs : List SX) (o : Nat), RdC w bad ι (flat cT xs) b o → ∀ i, i < xs.length → w.cell? ⟨b, o + i * 6, none⟩ = some (.int .i64 xs[i]!.1.op) ∧ w.cell? ⟨b, o + i * 6 + 1, none⟩ = some (.int .i64 xs[i]!.1.x) ∧ w.cell? ⟨b, o + i * 6 + 2, none⟩ = some (.int .i64 xs[i]!.1.y) ∧
   w.cell? ⟨b,o + i * 6 + 3,none⟩ = some (.int .i64 xs[i]!.1.n) ∧ w.cell? ⟨b,o + i * 6 + 4,none⟩ = some xs[i]!.2.1.1 ∧ w.cell? ⟨b,o + i * 6 + 5,none⟩ = some xs[i]!.2.2.1
 | [],_,_,j,hj => by simp at hj
 | x :: xs, o, h, j, hj => by
  have e : flat cT (x :: xs) = iv x.1.op :: iv x.1.x :: iv x.1.y :: iv x.1.n :: .v x.2.1.1 :: .v x.2.2.1 :: flat cT xs := rfl
  rw [e] at h
  simp only [RdC] at h
  obtain ⟨⟨a0,p0,_,r0⟩,⟨a1,p1,_,r1⟩,⟨a2,p2,_,r2⟩,⟨a3,p3,_,r3⟩,⟨a4,p4,_,r4⟩,⟨a5,p5,_,r5⟩,h6⟩ := h
  simp only [Rd] at r0 r1 r2 r3 r4 r5
  subst r0 r1 r2 r3 r4 r5
  cases j with
  | zero => exact ⟨by simpa using p0,by simpa using p1,by simpa using p2,by simpa using p3,by simpa using p4,by simpa using p5⟩
  | succ j =>
   have := uV xs (o + 6) (by simpa [Nat.add_assoc] using h6) j (by simpa using hj)
   rw [show o + (j + 1) * 6 = o + 6 + j * 6 from by omega]
   simpa using this
theorem nB {P:Program}{res:Array ResultVar}{R:AV → dE → Prop}{s:AS}{E:dE}{l:List AV}(hr:iQ P (lk s.ts) (aQ s.hs) res.toList = some l){r:AV}(e:aR l = r) (hf:r.free = true) (hR:R r E):xL P res R .ret s E:=by
 subst e
 exact ⟨.inl rfl,l,hr,fun C ι F w y g hy hT hd => ⟨_,E,hR,hf,Rd.free _ _ hf hy,hT,fun b hb => .inl hb⟩⟩
theorem uG {C:Ctx}{ι:Pl}{F:Nat → Prop}{H:Nat → Option (List AV)}{w:World}(g:HG C ι F H w){i n e:Nat}{y:Value}{cs:List AV}(hy:Rd w (aC C.X ι H) ι (.own i 0 n e) y) (hH:H i = some cs) (hn:0 < n) :
  ∃ (b β c : Nat) (arr : Array Value) (el : TypeId),ι i = some (some (b,β)) ∧ y = .slice (some ⟨b,β,none⟩) n c ∧ n ≤ c ∧ w.heap[b]? = some (.cells arr el (0,0)) ∧ β + c * e ≤ arr.size ∧ RdC w (aC C.X ι H) ι cs b β := by
 simp only [Rd] at hy
 rcases hy with ⟨_,q,_⟩ | ⟨b,β,c,q1,q2,q3,q4⟩
 ·omega
 ·rcases g.obj i cs hH with ⟨q, _⟩ | ⟨b', β', arr, el, p1, p2, p3, p4, p5, p6⟩
  ·rw [q] at q1;cases q1
  ·rw [p1] at q1; cases q1
   exact ⟨_,_,c,arr,el,p1,by rw [Nat.add_zero] at q2;exact q2,q3,p2,by unfold oA at q4;rw [p2] at q4;simpa using q4,p4⟩
theorem o8 {w:World}{bad:Nat → Prop}{ι:Pl}{i e:Nat}{y:Value}(hy:Rd w bad ι (.own i 0 0 e) y):∃ a c,y = .slice a 0 c:=by
 simp only [Rd] at hy
 rcases hy with ⟨_,_,a,rfl⟩ | ⟨b,β,c,_,rfl,_⟩
 ·exact ⟨_,_,rfl⟩
 ·exact ⟨_,_,rfl⟩
theorem TrE.one {t:TD}{y:Value}{B:List Nat}{w:World}(h:TrX w t y B) (hn:B.Nodup):TrE [(t,y,B)] w :=
 ⟨fun x hx => by rw [List.mem_singleton] at hx;subst hx;exact h,by simpa [bl] using hn⟩
theorem Ba {P:Program}{res:Array ResultVar}{R:AV → dE → Prop}{s:AS}{l:List AV}(hr:iQ P (lk s.ts) (aQ s.hs) res.toList = some l){i n:Nat}{L:List Int}(e:aR l = .own i 0 n 1) (hH:aQ s.hs i = some (flat cI L)) (hn:n = L.length)
  (hR : ∀ a c B,R (.v (.slice a L.length c)) [(.ints L,.slice a L.length c,B)]) : xL P res R .ret s [] := by
 subst hn
 refine ⟨.inl rfl,l,hr,fun C ι F w y g hy hT hd => ?_⟩
 rw [e] at hy
 rcases Nat.eq_zero_or_pos L.length with h0|h0
 ·have hL : L = [] := List.eq_nil_of_length_eq_zero h0
  subst hL
  obtain ⟨a,c,rfl⟩ := o8 hy
  exact ⟨_,_,hR a c [],rfl,(by simp only [Rd]; rfl),TrE.one (show TrI w [] _ _ from .nil) List.nodup_nil,fun b hb => by simp [bl] at hb⟩
 ·obtain ⟨b, β, c, arr, el, q1, rfl, q3, q4, q5, q6⟩ := uG g hy hH h0
  refine ⟨_,_,hR (some ⟨b,β,none⟩) c [b],rfl,by simp only [Rd],TrE.one (by simp only [TrX]; exact .cons h0 q3 q4 (by omega) (mU L β q6)) (by simp),fun b' hb => .inr ⟨i,_,β,hH,?_⟩⟩
  simp [bl] at hb
  subst hb;exact q1
theorem BB {P:Program}{res:Array ResultVar}{R:AV → dE → Prop}{s:AS}{l:List AV}(hr:iQ P (lk s.ts) (aQ s.hs) res.toList = some l){i n:Nat}{xs:List SX}(e:aR l = .own i 0 n 6) (hH:aQ s.hs i = some (flat cT xs)) (hn:n = xs.length)
  (hR : ∀ a c B,R (.v (.slice a xs.length c)) [(.stms (xs.map (·.1)),.slice a xs.length c,B)]) : xL P res R .ret s (eN xs) := by
 subst hn
 refine ⟨.inl rfl,l,hr,fun C ι F w y g hy hT hd => ?_⟩
 rw [e] at hy
 rcases Nat.eq_zero_or_pos xs.length with h0|h0
 ·have hL : xs = [] := List.eq_nil_of_length_eq_zero h0
  subst hL
  obtain ⟨a,c,rfl⟩ := o8 hy
  exact ⟨_,_,hR a c [],rfl,(by simp only [Rd]; rfl),TrE.one (show TrH w [] _ _ from .nil) List.nodup_nil,fun b hb => by simp [bl] at hb⟩
 ·obtain ⟨b, β, c, arr, el, q1, rfl, q3, q4, q5, q6⟩ := uG g hy hH h0
  have hl : (xs.map (·.1)).length = xs.length := by simp
  have hx : ∀ i,i < xs.length → (xs.map (·.1))[i]! = xs[i]!.1 := fun i hi => by rw [bG _ _ (by simpa using hi),bG _ _ hi,List.getElem_map]
  have hm : ∀ i, i < xs.length → TrH w xs[i]!.1.th xs[i]!.2.1.1 xs[i]!.2.1.2 ∧ TrH w xs[i]!.1.el xs[i]!.2.2.1 xs[i]!.2.2.2 := fun i hi => by
   have hin := bU xs i hi
   have h4 := hT.t (.stms xs[i]!.1.th,xs[i]!.2.1.1,xs[i]!.2.1.2) (List.mem_flatMap.2 ⟨_,hin,by simp⟩)
   have h5 := hT.t (.stms xs[i]!.1.el,xs[i]!.2.2.1,xs[i]!.2.2.2) (List.mem_flatMap.2 ⟨_,hin,by simp⟩)
   simp only [TrX] at h4 h5
   exact ⟨h4,h5⟩
  have hcell := uV xs β q6
  have htr : TrH w (xs.map (·.1)) (.slice (some ⟨b, β, none⟩) (xs.map (·.1)).length c) (b :: bl (eN xs)) := by
   refine .cons (fun i => xs[i]!.2.1.1) (fun i => xs[i]!.2.2.1) (fun i => xs[i]!.2.1.2) (fun i => xs[i]!.2.2.2) (by rw [hl]; exact h0) (by rw [hl]; exact q3) q4 q5 (fun i hi => ?_) (fun i hi => ?_) (fun i hi => ?_) (by rw [y8,hl])
   ·rw [hl] at hi;rw [hx i hi]; exact hcell i hi
   ·rw [hl] at hi;rw [hx i hi]; exact (hm i hi).1
   ·rw [hl] at hi;rw [hx i hi]; exact (hm i hi).2
  rw [hl] at htr
  refine ⟨_,_,hR (some ⟨b,β,none⟩) c (b :: bl (eN xs)),rfl,by simp only [Rd],TrE.one (by simp only [TrX]; exact htr) (List.nodup_cons.2 ⟨hd i _ b β hH q1,hT.nd⟩),fun b' hb => ?_⟩
  have hb' : b' = b ∨ b' ∈ bl (eN xs) := by
   unfold bl at hb;simpa [bl] using hb
  rcases hb' with rfl|hb'
  ·exact .inr ⟨i,_,β,hH,q1⟩
  ·exact .inl hb'
theorem lG {P:Program}{N:Nat}{Q:Exit → AS → dE → Prop}{E:dE}{σ:Type}{c:Code}{ts:List (Nat × AV)}{hs:List (Nat × Option (List AV))}{n:Nat}{z0:Lo}(kl:List Nat) (kt:List (Nat × AV)) (js:List Nat) (kh:List (Nat × Option (List AV)))
  (ot : σ → List (Nat × AV)) (oh : σ → List (Nat × Option (List AV))) (J : σ → dE) (p : σ → Prop) (μ : σ → Nat) (i0 : σ) (h0 : p i0) (hJ : J i0 = E) (hk : mH kl ts = kt) (hj : mV js hs = kh)
  (h1 : lW ts (ot i0)) (h2 : kA hs (oh i0))
  (round : ∀ i,p i → cC P N c (BN (fun s' E' => ∃ j,p j ∧ μ j < μ i ∧ Le s' ⟨ot j ++ kt,oh j ++ kh,n,z0⟩ ∧ J j = E') Q) (J i) ⟨ot i ++ kt,oh i ++ kh,n,z0⟩) :
  cC P N (.loop c) Q E ⟨ts,hs,n,z0⟩ := by
 subst hk hj
 exact Dx p (fun i => ⟨ot i ++ mH kl ts,oh i ++ mV js hs,n,z0⟩) J μ ⟨i0,h0,Le.lit (kH h1 (kO kl)) (kC h2 (nH js)) (Nat.le_refl _),hJ⟩ round
def zT : SX := (J7,(.slice none 0 0,[]),(.slice none 0 0,[]))
theorem ES:∀ n:Nat,(List.replicate n ([Value.int .i64 0,.int .i64 0,.int .i64 0,.int .i64 0,.slice none 0 0,.slice none 0 0].map AV.v)).flatten = flat cT (List.replicate n zT)
 | 0 => rfl
 | n + 1 => by
  rw [List.replicate_succ,List.replicate_succ,List.flatten_cons,ES n]; rfl
theorem JO {xs:List SX}{k:Nat}(x:SX) (hk:k < xs.length):fG (flat cT xs) (0 + k * 6) [iv x.1.op,iv x.1.x,iv x.1.y,iv x.1.n,.v x.2.1.1,.v x.2.2.1] = flat cT (xs.set k x) := fX hk rfl
def Kd (P : Program) (k : FuncId) (avs : List AV) (E0 E0' : dE) (k1 : Int) : Prop := ∀ (w : World) (vals : List Value),RdV w (fun _ => False) (fun _ => none) avs vals → TrE E0 w →
 Calls P k vals.toArray w (fun e w' => e = .returned (.int .i64 k1) ∧ Fr (fun b => b ∈ bl E0) w w' ∧ TrE E0' w')
theorem c7 (E1 E0 E2:dE):bl (E1 ++ (E0 ++ E2)) = bl E1 ++ (bl E0 ++ bl E2) := by rw [jP,jP]
theorem GsT.mark {C:Ctx}{s:AS}{E1 E0 E0' E2:dE}{a:Act}{w w':World}(h:GsT C s (E1 ++ (E0 ++ E2)) a w) (f':Fr (fun b => b ∈ bl E0) w w') (ht:TrE E0' w') (hb0:bl E0' = bl E0):GsT C s (E1 ++ (E0' ++ E2)) a w':=by
 have hT := h.tree
 obtain ⟨wb,hX,f,h1,h2,h3,h0,ι,g,gh⟩ := h
 have hnd := hT.nd
 rw [c7,List.nodup_append,List.nodup_append] at hnd
 obtain ⟨n1,⟨n2,n3,n4⟩,n5⟩ := hnd
 have hBm : ∀ b,b ∈ bl E0 → b ∈ bl (E1 ++ (E0 ++ E2)) := fun b hb => by rw [c7]; exact List.mem_append.2 (.inr (List.mem_append.2 (.inl hb)))
 have hW : ∀ b,(fP C wb _ hX).W0 b → C.W0 b ∨ C.w0.heap.size ≤ b := fun b q => q.1
 have fw : Fr C.W0 C.w0 w := f.trans2 gh.fr hW
 have fw' : Fr C.W0 C.w0 w' := fw.trans2 f' (fun b q => (h1 b (hBm b q)).elim .inr .inl)
 have hblk : ∀ b,b < w.heap.size → b ∉ bl E0 → w'.heap[b]? = w.heap[b]? := fun b hb hn => f'.block b hb hn
 have hT' : TrE (E1 ++ (E0' ++ E2)) w' := by
  refine ⟨fun x hx => ?_,by rw [c7,hb0]; have := hT.nd;rw [c7] at this;exact this⟩
  rcases List.mem_append.1 hx with hx|hx
  ·have hq := hT.t x (List.mem_append.2 (.inl hx))
   exact hq.stay fun b hb => hblk b (hq.lt b hb) fun hn => n5 b (zD hx hb) b (List.mem_append.2 (.inl hn)) rfl
  ·rcases List.mem_append.1 hx with hx | hx
   ·exact ht.t x hx
   ·have hq := hT.t x (List.mem_append.2 (.inr (List.mem_append.2 (.inr hx))))
    exact hq.stay fun b hb => hblk b (hq.lt b hb) fun hn => n4 b hn b (zD hx hb) rfl
 have heq : ∀ b,b ∈ bl (E1 ++ (E0' ++ E2)) ↔ b ∈ bl (E1 ++ (E0 ++ E2)) := fun b => by rw [c7,c7,hb0]
 have hX' : ∀ b, C.X b ∨ b ∈ bl (E1 ++ (E0' ++ E2)) → b < w'.heap.size := by
  rintro b (q|q)
  ·exact Nat.lt_of_lt_of_le (C.xlt b q) fw'.size
  ·exact hT'.lt b q
 have hbad : ∀ b, aC (fP C w' _ hX').X ι (aQ s.hs) b → aC (fP C wb _ hX).X ι (aQ s.hs) b := by
  rintro b (q|q)
  ·rcases q with q | q
   ·exact .inl (.inl q)
   ·exact .inl (.inr ((heq b).1 q))
  ·exact .inr q
 have hnB : ∀ b,¬ aC (fP C wb _ hX).X ι (aQ s.hs) b → b ∉ bl E0 := fun b hb q => hb (.inl (.inr (hBm b q)))
 have car : Carry w (aC (fP C wb _ hX).X ι (aQ s.hs)) ι w' (aC (fP C w' _ hX').X ι (aQ s.hs)) ι := ⟨fun b o x q1 q2 => ⟨fun q => q1 (hbad b q),by rw [b6 (hblk b (eT q2) (hnB b q1))]; exact q2⟩,fun _ _ h => h,f'.bs⟩
 refine ⟨w',hX',fw',fun b hb => h1 b ((heq b).1 hb),fun b hb => h2 b ((heq b).1 hb),hT',h0,ι,TG.carryC (C := fP C wb _ hX) (C' := fP C w' _ hX') rfl g car,⟨fun id cs h => ?_,gh.sep,Fr.refl _ _,gh.ex,gh.fresh⟩⟩
 rcases gh.obj id cs h with q | ⟨b,β,arr,e,q1,q2,q3,q4,q5,q6⟩
 ·exact .inl q
 ·have hlt := cL q2
  have hb' := hblk b hlt fun q => q5 (.inr (hBm b q))
  refine .inr ⟨b,β,arr,e,q1,by rw [hb']; exact q2,q3,RdC.carryB car _ _ _ (fun o y hy => by rw [b6 hb']; exact hy) q4,?_,.inl ⟨?_,?_⟩⟩
  ·rintro (q | q)
   ·exact q5 (.inl q)
   ·exact q5 (.inr ((heq b).1 q))
  ·rcases q6 with q6 | q6
   ·exact hW b q6
   ·exact .inr (Nat.le_trans f.size q6)
  ·exact fun q => q5 (.inr ((heq b).1 q))
theorem TrE.sub {E1 E0 E2:dE}{w:World}(h:TrE (E1 ++ (E0 ++ E2)) w):TrE E0 w:=by
 refine ⟨fun t ht => h.t t (List.mem_append.2 (.inr (List.mem_append.2 (.inl ht)))),?_⟩
 have := h.nd
 rw [c7,List.nodup_append,List.nodup_append] at this
 exact this.2.1.1
theorem RdV.freeV {w:World}{bad bad2:Nat → Prop}{ι ι2:Pl}:∀ (avs:List AV) (vs:List Value),jX avs = true → RdV w bad ι avs vs → RdV w bad2 ι2 avs vs
 | [],_,_,k => by simpa only [RdV] using k
 | a :: avs, vs, h, k => by
  simp only [jX,Bool.and_eq_true] at h
  simp only [RdV] at k ⊢
  obtain ⟨x,l',rfl,h1,h2⟩ := k
  exact ⟨x,l',rfl,Rd.free _ _ h.1 h1,RdV.freeV avs l' h.2 h2⟩
section
variable {P : Program} {N : Nat} {Q : Exit → AS → dE → Prop} {all : Array Oper} {rest : List Oper} {ts : List (Nat × AV)} {hs : List (Nat × Option (List AV))} {n : Nat} {z0 : Lo} {d : Nat} {ty : TypeId} {pos : String} {af : Array Edge}
theorem hU {k:FuncId}{args:Array Operand}{tys:Array TypeId}(E1 E0 E2:dE){E E0':dE}{avs:List AV}{k1:Int}[hc:CaT P k] (hE:E = E1 ++ (E0 ++ E2)) (ha:evL (lk ts) args.toList = some avs) (hf:jX avs = true) (h:Kd P k avs E0 E0' k1) (hb0:bl E0' = bl E0) (hN:Nat.blt d N = true)
  (kk : rV P N all Q (E1 ++ (E0' ++ E2)) rest ⟨(d,iv k1) :: ts,hs,n,z0⟩) : rV P N all Q E (⟨some d,.call ⟨.value (.func k),args,tys⟩,ty,pos,af,none⟩ :: rest) ⟨ts,hs,n,z0⟩ := by
 subst hE
 intro C a w hCN gT
 refine wpList_plain rfl (fun K hK => ?_)
 simp only [Oper.wp,eW hc.pf,Oper.upon]
 have hT := gT.tree
 have gT' := gT
 obtain ⟨wb,hX,f,h1,h2,h3,h0,ι,g,gh⟩ := gT'
 have hv := gB g ha
 refine (h w _ (RdV.freeV _ _ hf hv) hT.sub).mono ?_
 rintro e w' ⟨rfl,hfr,hT2⟩
 exact hK _ _ (kk C _ _ hCN ((gT.mark hfr hT2 hb0).put (hCN.symm ▸ dL hN) (r := iv k1) (bad := fun _ => False) (ι0 := fun _ => none) rfl (by simp only [Rd])))
end
def TMk (P : Program) (k : FuncId) (t t' : TD) (k0 k1 : Int) : Prop := ∀ (w : World) (y : Value) (B : List Nat),TrX w t y B → B.Nodup →
 Calls P k #[y,.int .i64 k0] w (fun e w' => e = .returned (.int .i64 k1) ∧ Fr (fun b => b ∈ B) w w' ∧ TrX w' t' y B)
theorem TMk.e {P:Program}{k:FuncId}{t t':TD}{k0 k1:Int}(h:TMk P k t t' k0 k1) (y:Value) (B:List Nat):Kd P k [.v y,iv k0] [(t,y,B)] [(t',y,B)] k1:=by
 intro w vals hv hT
 simp only [RdV,Rd] at hv
 obtain ⟨x1,l1,e1,e3,x2,l2,e2,e4,e5⟩ := hv
 rw [e1,e3,e2,e4,e5]
 have hnd : B.Nodup := by simpa [bl] using hT.nd
 refine (h w y B (hT.t _ (List.mem_singleton.2 rfl)) hnd).mono ?_
 rintro e w' ⟨rfl,hfr,hX⟩
 have eb : bl [(t,y,B)] = B := by simp [bl]
 exact ⟨rfl,by rw [eb]; exact hfr,TrE.one hX hnd⟩
theorem F1 {w : World} {bad : Nat → Prop} {ι : Pl} {b : Nat} : ∀ (xs : List SX) (o : Nat), (∀ i, i < xs.length → w.cell? ⟨b, o + i * 6, none⟩ = some (.int .i64 xs[i]!.1.op) ∧ w.cell? ⟨b, o + i * 6 + 1, none⟩ = some (.int .i64 xs[i]!.1.x) ∧ w.cell? ⟨b, o + i * 6 + 2, none⟩ = some (.int .i64 xs[i]!.1.y) ∧
   w.cell? ⟨b,o + i * 6 + 3,none⟩ = some (.int .i64 xs[i]!.1.n) ∧ (w.cell? ⟨b,o + i * 6 + 4,none⟩ = some xs[i]!.2.1.1 ∧ xs[i]!.2.1.1.oneCell' = true) ∧ (w.cell? ⟨b,o + i * 6 + 5,none⟩ = some xs[i]!.2.2.1 ∧ xs[i]!.2.2.1.oneCell' = true)) → RdC w bad ι (flat cT xs) b o
 | [],_,_ => by simp only [flat,List.flatMap_nil,RdC]
 | x :: xs, o, h => by
  have e : flat cT (x :: xs) = iv x.1.op :: iv x.1.x :: iv x.1.y :: iv x.1.n :: .v x.2.1.1 :: .v x.2.2.1 :: flat cT xs := rfl
  rw [e]
  simp only [RdC]
  obtain ⟨p0,p1,p2,p3,⟨p4,q4⟩,⟨p5,q5⟩⟩ := h 0 (by simp)
  refine ⟨⟨_,by simpa using p0,rfl,by simp only [Rd]⟩,⟨_,by simpa using p1,rfl,by simp only [Rd]⟩,⟨_,by simpa using p2,rfl,by simp only [Rd]⟩,⟨_,by simpa using p3,rfl,by simp only [Rd]⟩,⟨_,by simpa using p4,by simpa using q4,by simp only [Rd]⟩,⟨_,by simpa using p5,by simpa using q5,by simp only [Rd]⟩,?_⟩
  have := F1 (w := w) (bad := bad) (ι := ι) (b := b) xs (o + 6) fun i hi => by
   have := h (i + 1) (by simpa using hi)
   rw [show o + 6 + i * 6 = o + (i + 1) * 6 from by omega]
   simpa using this
  simpa [Nat.add_assoc] using this
theorem DI {w:World}{bad:Nat → Prop}{ι:Pl}{xs:List SX}{b β c:Nat}{arr:Array Value}{el:TypeId}(h0:0 < xs.length) (q3:xs.length ≤ c) (q4:w.heap[b]? = some (.cells arr el (0,0))) (q5:β + c * 6 ≤ arr.size) (q6:RdC w bad ι (flat cT xs) b β) (hT:TrE (eN xs) w) :
  TrH w (xs.map (·.1)) (.slice (some ⟨b,β,none⟩) xs.length c) (b :: bl (eN xs)) := by
 have hl : (xs.map (·.1)).length = xs.length := by simp
 have hx : ∀ i,i < xs.length → (xs.map (·.1))[i]! = xs[i]!.1 := fun i hi => by rw [bG _ _ (by simpa using hi),bG _ _ hi,List.getElem_map]
 have hm : ∀ i, i < xs.length → TrH w xs[i]!.1.th xs[i]!.2.1.1 xs[i]!.2.1.2 ∧ TrH w xs[i]!.1.el xs[i]!.2.2.1 xs[i]!.2.2.2 := fun i hi => by
  have hin := bU xs i hi
  have h4 := hT.t (.stms xs[i]!.1.th,xs[i]!.2.1.1,xs[i]!.2.1.2) (List.mem_flatMap.2 ⟨_,hin,by simp⟩)
  have h5 := hT.t (.stms xs[i]!.1.el,xs[i]!.2.2.1,xs[i]!.2.2.2) (List.mem_flatMap.2 ⟨_,hin,by simp⟩)
  simp only [TrX] at h4 h5
  exact ⟨h4,h5⟩
 have hcell := uV xs β q6
 have htr : TrH w (xs.map (·.1)) (.slice (some ⟨b, β, none⟩) (xs.map (·.1)).length c) (b :: bl (eN xs)) := by
  refine .cons (fun i => xs[i]!.2.1.1) (fun i => xs[i]!.2.2.1) (fun i => xs[i]!.2.1.2) (fun i => xs[i]!.2.2.2) (by rw [hl]; exact h0) (by rw [hl]; exact q3) q4 q5 (fun i hi => ?_) (fun i hi => ?_) (fun i hi => ?_) (by rw [y8,hl])
  ·rw [hl] at hi;rw [hx i hi]; exact hcell i hi
  ·rw [hl] at hi;rw [hx i hi]; exact (hm i hi).1
  ·rw [hl] at hi;rw [hx i hi]; exact (hm i hi).2
 rwa [hl] at htr
theorem TrH.open {w:World}{l:List Stmt}{y:Value}{B:List Nat}(h:TrH w l y B) (hB:B.Nodup) (hn:0 < l.length):∃ (xs:List SX) (b β c:Nat) (arr:Array Value) (el:TypeId),xs.map (·.1) = l ∧ xs.length = l.length ∧ y = .slice (some ⟨b,β,none⟩) l.length c ∧ l.length ≤ c ∧ w.heap[b]? = some (.cells arr el (0,0)) ∧ β + c * 6 ≤ arr.size ∧
  B = b :: bl (eN xs) ∧ TrE (eN xs) w ∧ ∀ (bad : Nat → Prop) (ι : Pl),RdC w bad ι (flat cT xs) b β := by
 cases h with
 | nil => simp at hn
 | @cons _ b o c arr ty _ v4 v5 B4 B5 h1 h2 h3 h4 h5 h6 h7 h8 =>
  have hxl : ((List.range l.length).map fun i => ((l[i]!,(v4 i,B4 i),(v5 i,B5 i)) : SX)).length = l.length := by simp
  have hxg : ∀ i,i < l.length → ((List.range l.length).map fun i => ((l[i]!,(v4 i,B4 i),(v5 i,B5 i)) : SX))[i]! = (l[i]!,(v4 i,B4 i),(v5 i,B5 i)) := fun i hi => by rw [bG _ _ (by simpa using hi)]; simp
  have hbl : bl (eN ((List.range l.length).map fun i => ((l[i]!, (v4 i, B4 i), (v5 i, B5 i)) : SX))) = (List.range l.length).flatMap (fun i => B4 i ++ B5 i) := by
   rw [y8,hxl]
   have : ∀ (ns : List Nat), (∀ i ∈ ns, i < l.length) → ns.flatMap (fun i => ((List.range l.length).map fun i => ((l[i]!, (v4 i, B4 i), (v5 i, B5 i)) : SX))[i]!.2.1.2 ++ ((List.range l.length).map fun i => ((l[i]!, (v4 i, B4 i), (v5 i, B5 i)) : SX))[i]!.2.2.2) = ns.flatMap (fun i => B4 i ++ B5 i) := by
    intro ns
    induction ns with
    | nil => intro _; rfl
    | cons n ns ih =>
     intro hn
     rw [List.flatMap_cons,List.flatMap_cons,ih fun i hi => hn i (List.mem_cons_of_mem _ hi),hxg n (hn n (List.mem_cons_self))]
   exact this _ fun i hi => List.mem_range.1 hi
  refine ⟨(List.range l.length).map fun i => (l[i]!,(v4 i,B4 i),(v5 i,B5 i)),b,o,c,arr,ty,?_,hxl,rfl,h2,h3,h4,by rw [h8,hbl],⟨fun t ht => ?_,?_⟩,fun bad ι => F1 _ _ fun i hi => ?_⟩
  ·refine List.ext_getElem (by simp) fun i a1 a2 => ?_
   rw [List.getElem_map,List.getElem_map,List.getElem_range]
   exact bG _ _ a2
  ·obtain ⟨x, hx, ht⟩ := List.mem_flatMap.1 ht
   obtain ⟨i,hi,rfl⟩ := List.mem_map.1 hx
   rw [List.mem_range] at hi
   simp only [List.mem_cons,List.not_mem_nil,or_false] at ht
   rcases ht with rfl|rfl
   ·simp only [TrX]; exact h6 i hi
   ·simp only [TrX]; exact h7 i hi
  ·rw [hbl]; rw [h8] at hB;exact (List.nodup_cons.1 hB).2
  ·rw [hxl] at hi
   rw [hxg i hi]
   obtain ⟨c0,c1,c2,c3,c4,c5⟩ := h5 i hi
   exact ⟨c0,c1,c2,c3,⟨c4,(h6 i hi).one⟩,⟨c5,(h7 i hi).one⟩⟩
theorem sT {P:Program}{k:FuncId}{fn:Func}{c:Code}{k0 k1:Int}{n e:Nat}{cs:List AV}{E:dE}{w:World}{b β cc:Nat}{arr:Array Value}{el:TypeId}{R:World → Prop}(hf:P.funcs[k]? = some fn) (hb:fn.body = some c) (hN:2 ≤ fn.ntmps)
  (x5 : w.heap[b]? = some (.cells arr el (0,0))) (x6 : β + cc * e ≤ arr.size) (x4 : n ≤ cc) (hcs : cs.length = n * e) (x9 : ∀ (bad : Nat → Prop) (ι : Pl),RdC w bad ι cs b β) (x8 : TrE E w) (hnb : b ∉ bl E) (Post : AS → dE → Prop)
  (h : cC P fn.ntmps c (fun x s E' => (x = .ret ∨ x = .normal) ∧ iQ P (lk s.ts) (aQ s.hs) fn.results.toList = some [iv k1] ∧ Post s E') E ⟨dJ 0 [.own 0 0 n e,iv k0],[(0,some cs)],1,⟨1,aY⟩⟩)
  (fin : ∀ (s : AS) (E' : dE) (C : Ctx) (ι : Pl) (F : Nat → Prop) (w' : World),Post s E' → HG C ι F (aQ s.hs) w' → ι 0 = some (some (b,β)) → TrE E' w' → oA w b ≤ oA w' b → R w') :
  Calls P k #[.slice (some ⟨b,β,none⟩) n cc,.int .i64 k0] w (fun e w' => e = .returned (.int .i64 k1) ∧ Fr (fun q => q ∈ b :: bl E) w w' ∧ R w') := by
 refine calls_of_wp hf hb ?_
 let C : Ctx := { N := fn.ntmps,w0 := w,W0 := fun q => q ∈ b :: bl E,X := fun _ => False,ι0 := fun id => if id = 0 then some (some (b,β)) else none,xlt := fun _ q => q.elim }
 have hX : ∀ q,C.X q ∨ q ∈ bl E → q < w.heap.size := fun q hq => hq.elim (fun q => q.elim) (x8.lt q)
 have hι : ∀ id c', aQ [(0, some cs)] id = some c' → id = 0 ∧ c' = cs := fun id c' hq => by
  rw [cA] at hq
  split at hq
  ·rename_i e;cases hq;exact ⟨e,rfl⟩
  ·simp [aQ] at hq
 have gh : HG (fP C w E hX) C.ι0 (Fn 1 ⟨1, aY⟩) (aQ [(0, some cs)]) w := by
  refine ⟨fun id c' hq => ?_,fun id id' c1 c2 q β1 β2 h1 h2 _ _ => by rw [(hι _ _ h1).1,(hι _ _ h2).1],Fr.refl _ _,fun _ _ h => h,fun id hid => ?_⟩
  ·obtain ⟨rfl, rfl⟩ := hι id c' hq
   refine .inr ⟨b,β,arr,el,rfl,x5,?_,x9 _ _,?_,.inl ⟨.inl (List.mem_cons_self),hnb⟩⟩
   ·rw [hcs]; have := Nat.mul_le_mul_right e x4;omega
   ·rintro (q | q)
    ·exact q
    ·exact hnb q
  ·have : 1 ≤ id := hid.1
   show (if id = 0 then _ else _) = none
   rw [if_neg (by omega)]
 have hv : RdV w (aC (fP C w E hX).X C.ι0 (aQ [(0, some cs)])) C.ι0 [.own 0 0 n e, iv k0] [.slice (some ⟨b, β, none⟩) n cc, .int .i64 k0] := by
  simp only [RdV]
  refine ⟨_,_,rfl,?_,_,_,rfl,by simp only [Rd],rfl⟩
  simp only [Rd]
  exact .inr ⟨b,β,cc,rfl,rfl,x4,by unfold oA;rw [x5]; simpa using x6⟩
 have gt : TG (fP C w E hX) C.ι0 (lk (dJ 0 [.own 0 0 n e, iv k0])) (aQ [(0, some cs)]) { tmps := [Value.slice (some ⟨b, β, none⟩) n cc, .int .i64 k0].toArray ++ Array.replicate (fn.ntmps - [Value.slice (some ⟨b, β, none⟩) n cc, .int .i64 k0].toArray.size) undef, defers := [] } w := by
  refine ⟨rfl,by simp [fP,C]; omega,fun t av ht => ?_⟩
  obtain ⟨y,_,h1,h2⟩ := iZ hv ht
  refine ⟨y,?_,h2⟩
  have hlt : t < [Value.slice (some ⟨b, β, none⟩) n cc, .int .i64 k0].length := by
   rcases Nat.lt_or_ge t [Value.slice (some ⟨b,β,none⟩) n cc,.int .i64 k0].length with q|q
   ·exact q
   ·rw [List.getElem?_eq_none (by simpa using q)] at h1;cases h1
  rw [Array.getElem?_append_left (by simpa using hlt)]
  simpa using h1
 have gT : GsT C ⟨dJ 0 [.own 0 0 n e, iv k0], [(0, some cs)], 1, ⟨1, aY⟩⟩ E { tmps := [Value.slice (some ⟨b, β, none⟩) n cc, .int .i64 k0].toArray ++ Array.replicate (fn.ntmps - [Value.slice (some ⟨b, β, none⟩) n cc, .int .i64 k0].toArray.size) undef, defers := [] } w :=
  ⟨w,hX,Fr.refl _ _,fun q hq => .inr (List.mem_cons_of_mem _ hq),fun _ _ q => q,x8,fun id hid => .inr (if_neg (by have : 1 ≤ id := hid;omega)),C.ι0,gt,gh⟩
 refine wp_mono (h C _ w rfl gT) ?_
 rintro x a' w' ⟨s1,E',⟨he,hres,hP⟩,gT'⟩
 have hT' := gT'.tree
 have gD := gT'.drop
 have hfr : Fr (fun q => q ∈ b :: bl E) w w' := by obtain ⟨_,_,_,gh'⟩ := gD;exact gh'.fr
 obtain ⟨wb,hX',f,p1,p2,p3,h0',ι,g1,g2⟩ := gT'
 obtain ⟨ys,q1,q2⟩ := lO (P := P) g1 g2 hres
 have hys : ys = [.int .i64 k1] := by
  simp only [RdV,Rd] at q2
  obtain ⟨_,_,rfl,rfl,rfl⟩ := q2
  rfl
 subst hys
 have hres' : (results fn a'.tmps).run P w' = .ok (.int .i64 k1) w' := by
  have hr1 : results fn a'.tmps = (do let vs ← fn.results.mapM (rS a'); pure (if h : vs.size = 1 then vs[0] else .tuple vs)) := by
   unfold results
   congr 1
  rw [hr1,Array.mapM_eq_mapM_toList,Sem.run_bind,Sem.run_map,q1]
  simp only [Result.andThen_ok,Sem.run_pure]
  rfl
 have hR := fin s1 E' _ ι _ w' hP g2 (g2.ex 0 (some (b,β)) rfl) hT' (hfr.bs b)
 rcases he with rfl|rfl
 ·exact ⟨g1.df,_,hres',rfl,hfr,hR⟩
 ·exact ⟨g1.df,_,hres',rfl,hfr,hR⟩
theorem vM {P:Program}{k:FuncId}{k0 k1:Int}{av:AV}{w:World}{y:Value}(hp:PC P k [av,iv k0] (fun r => r = iv k1)) (hy:Rd w (fun _ => False) (fun _ => none) av y) :
  Calls P k #[y,.int .i64 k0] w (fun e w' => e = .returned (.int .i64 k1) ∧ Fr (fun _ => False) w w') := by
 have hT := cG hp rfl
 refine (hT w (fun _ => False) [y,.int .i64 k0] (fun _ q => q.elim) (by simp only [RdV]; exact ⟨_,_,rfl,hy,_,_,rfl,by simp only [Rd],rfl⟩)).mono ?_
 rintro e w' ⟨v,r,E,rfl,⟨rfl,rfl⟩,_,hr,hfr,_,_⟩
 simp only [Rd] at hr
 subst hr
 exact ⟨rfl,hfr⟩
theorem Fr.wide {W:Nat → Prop}{w w':World}(h:Fr (fun _ => False) w w'):Fr W w w' := ⟨h.os,h.tape,h.output,h.size,fun k hk _ => h.block k hk (fun q => q),h.bs⟩
theorem Fv {P:Program}{k:FuncId}{fn:Func}{c:Code}{l l':List Int}{k0 k1:Int}(hf:P.funcs[k]? = some fn) (hb:fn.body = some c) (hN:2 ≤ fn.ntmps) (hl:l'.length = l.length) (h0:l = [] → PC P k [sl cI [],iv k0] (fun r => r = iv k1))
  (h : 0 < l.length → AW P fn.ntmps c (fun x s => (x = .ret ∨ x = .normal) ∧ iQ P (lk s.ts) (aQ s.hs) fn.results.toList = some [iv k1] ∧ aQ s.hs 0 = some (flat cI l')) ⟨dJ 0 [.own 0 0 l.length 1,iv k0],[(0,some (flat cI l))],1,⟨1,aY⟩⟩) : TMk P k (.ints l) (.ints l') k0 k1 := by
 intro w y B ht hB
 simp only [TrX] at ht
 cases ht with
 | @nil a cc =>
  have e0 : l' = [] := List.eq_nil_of_length_eq_zero hl
  subst e0
  refine (vM (h0 rfl) (show Rd w _ _ (.imm 0 _) (.slice a 0 cc) by simp only [Rd]; exact ⟨a,cc,rfl,.inl trivial⟩)).mono ?_
  rintro e w' ⟨rfl,hfr⟩
  exact ⟨rfl,hfr.wide,by simp only [TrX]; exact .nil⟩
 | @cons _ b β cc arr el x1 x4 x5 x6 x7 =>
  have h' := h x1
  refine (sT (E := []) (n := l.length) (e := 1) (cs := flat cI l) (R := fun w' => TrX w' (.ints l') (.slice (some ⟨b, β, none⟩) l.length cc) [b]) hf hb hN x5 (by omega) x4 (aI cI (e := 1) l) (fun bad ι => tK l β x7) ⟨fun t ht => (by cases ht), List.nodup_nil⟩ (fun q => by cases q)
   (fun s E' => E' = [] ∧ aQ s.hs 0 = some (flat cI l')) (awt_lift fun C a w hN g => wp_mono (h' C a w hN g) fun e a' w' ⟨s',⟨q1,q2,q3⟩,q4⟩ => ⟨s',⟨q1,q2,rfl,q3⟩,q4⟩) ?_).mono ?_
  ·rintro s E' C ι F w' ⟨rfl, r1⟩ g2 hι0 _ hbs
   rcases g2.obj 0 _ r1 with ⟨q,_⟩ | ⟨b',β',arr',el',q,q4,q5,q6,q7,q8⟩
   ·rw [q] at hι0;cases hι0
   ·rw [q] at hι0; cases hι0
    have hsz : β + cc ≤ arr'.size := by
     unfold oA at hbs
     rw [x5,q4] at hbs
     exact Nat.le_trans x6 hbs
    simp only [TrX]
    rw [← hl]
    exact .cons (by omega) (by omega) q4 hsz (mU l' β q6)
  ·rintro e w' ⟨rfl, hfr, hR⟩
   exact ⟨rfl,hfr,hR⟩
theorem FD {P:Program}{k:FuncId}{fn:Func}{c:Code}{l l':List Stmt}{k0 k1:Int}(hf:P.funcs[k]? = some fn) (hb:fn.body = some c) (hN:2 ≤ fn.ntmps) (h0:l = [] → l' = [] ∧ PC P k [sl aF [],iv k0] (fun r => r = iv k1))
  (h : 0 < l.length → ∀ xs : List SX, xs.map (·.1) = l → cC P fn.ntmps c (fun x s E' => (x = .ret ∨ x = .normal) ∧ iQ P (lk s.ts) (aQ s.hs) fn.results.toList = some [iv k1] ∧ ∃ xs', aQ s.hs 0 = some (flat cT xs') ∧ E' = eN xs' ∧ xs'.map (·.1) = l' ∧ xs'.map (·.2) = xs.map (·.2)) (eN xs)
   ⟨dJ 0 [.own 0 0 l.length 6,iv k0],[(0,some (flat cT xs))],1,⟨1,aY⟩⟩) : TMk P k (.stms l) (.stms l') k0 k1 := by
 intro w y B ht hB
 simp only [TrX] at ht
 rcases Nat.eq_zero_or_pos l.length with hl|hl
 ·have hl0 : l = [] := List.eq_nil_of_length_eq_zero hl
  obtain ⟨e0,hp⟩ := h0 hl0
  subst hl0 e0
  cases ht with
  | @nil a cc =>
   refine (vM hp (show Rd w _ _ (.imm 0 _) (.slice a 0 cc) by simp only [Rd]; exact ⟨a,cc,rfl,.inl trivial⟩)).mono ?_
   rintro e w' ⟨rfl,hfr⟩
   exact ⟨rfl,hfr.wide,by simp only [TrX]; exact .nil⟩
  | cons _ _ _ _ h1 => simp at h1
 ·obtain ⟨xs, b, β, cc, arr, el, x1, x2, rfl, x4, x5, x6, rfl, x8, x9⟩ := ht.open hB hl
  have hnb := List.nodup_cons.1 hB
  refine (sT (E := eN xs) (n := l.length) (e := 6) (cs := flat cT xs) (R := fun w' => TrX w' (.stms l') (.slice (some ⟨b,β,none⟩) l.length cc) (b :: bl (eN xs))) hf hb hN x5 x6 x4 (by rw [aI cT (e := 6),x2]) x9 x8 hnb.1 _ (h hl xs x1) ?_)
  rintro s E' C ι F w' ⟨xs',r1,rfl,r3,r4⟩ g2 hι0 hT' hbs
  have r5 : xs'.length = xs.length := by have := congrArg List.length r4;simpa using this
  have r6 : bl (eN xs') = bl (eN xs) := by
   have : ∀ zs : List SX, bl (eN zs) = (zs.map (·.2)).flatMap fun x => x.1.2 ++ x.2.2 := fun zs => by
    unfold bl eN
    rw [List.flatMap_assoc,List.flatMap_map]
    congr 1
    funext x
    simp
   rw [this,this,r4]
  rcases g2.obj 0 _ r1 with ⟨q,_⟩ | ⟨b',β',arr',el',q,q4,q5,q6,q7,q8⟩
  ·rw [q] at hι0;cases hι0
  ·rw [q] at hι0; cases hι0
   have hsz : β + cc * 6 ≤ arr'.size := by
    unfold oA at hbs
    rw [x5,q4] at hbs
    exact Nat.le_trans x6 hbs
   have := DI (c := cc) (by rw [r5,x2]; exact hl) (by rw [r5,x2]; exact x4) q4 hsz q6 hT'
   rw [r3,r5,x2,r6] at this
   simp only [TrX]
   exact this
theorem GsT.drew {C:Ctx}{s:AS}{E:dE}{a:Act}{w:World}(h:GsT C s E a w):GsT C s E a { w with drawn := w.drawn + 1 }:=by
 obtain ⟨wb,hX,f,h1,h2,h3,h0,ι,g,gh⟩ := h
 obtain ⟨g1,c1⟩ := n6 gh
 exact ⟨wb,hX,f,h1,h2,h3,h0,ι,g.carry c1,g1⟩
def yS (P : Program) (N : Nat) (all : Array Oper) (Q : Exit → AS → dE → Prop) (E : dE) (fuel : Nat) (listed : Array Bool) (s : AS) : Prop :=
 ∀ (C : Ctx) (a : Act) (w : World),C.N = N → GsT C s E a w → wpAny P .any all (fun e a' w' => ∃ s' E',Q e s' E' ∧ GsT C s' E' a' w') fuel listed a w
section
variable {P : Program} {N : Nat} {Q : Exit → AS → dE → Prop} {E : dE} {all : Array Oper} {s : AS} {fuel : Nat} {listed : Array Bool}
theorem v7 {is:List Nat}(hr:Region.ready .any all listed = is) (hne:is ≠ []) (h:∀ i ∈ is,∃ o,all[i]? = some o ∧ rV P N all (fun e s' E' => e = .normal ∧ yS P N all Q E' fuel (listed.setIfInBounds i true) s') E [o] s):yS P N all Q E (fuel + 1) listed s:=by
 intro C a w hN g
 refine ⟨fun h0 => absurd (hr.symm.trans h0) hne,fun i hi => ?_⟩
 rw [hr] at hi
 obtain ⟨o,ho,hw⟩ := h i hi
 have hq := hw C a w hN g
 have hL : ¬ LetsOut (fun e a' w' => ∃ s' E',(e = Exit.normal ∧ yS P N all Q E' fuel (listed.setIfInBounds i true) s') ∧ GsT C s' E' a' w') := fun ⟨a,w,s',E',⟨q,_⟩,_⟩ => by cases q
 have hk : ∀ a w, wpList P all (fun e a' w' => ∃ s' E', (e = Exit.normal ∧ yS P N all Q E' fuel (listed.setIfInBounds i true) s') ∧ GsT C s' E' a' w') [] a w → wpAny P .any all (fun e a' w' => ∃ s' E', Q e s' E' ∧ GsT C s' E' a' w') fuel (listed.setIfInBounds i true) a w := by
  intro a w hk
  unfold wpList at hk
  obtain ⟨s',E',⟨_,hA⟩,hg⟩ := hk
  exact hA C a w hN hg
 unfold wpOp
 rw [ho]
 dsimp only
 unfold wpList at hq
 split
 ·rename_i hwn
  rw [if_pos hwn] at hq
  rcases hq with hq | ⟨_,hq⟩
  ·exact .inl (Fp hk (fun e a w ⟨s',E',⟨he,_⟩,_⟩ => he) hq)
  ·exact absurd hq hL
 ·rename_i hwn
  rw [if_neg hwn] at hq
  exact hk _ _ hq
theorem dY {i:Nat}{o:Oper}(hr:Region.ready .any all listed = [i]) (ho:all[i]? = some o) (h:rV P N all (fun e s' E' => e = .normal ∧ yS P N all Q E' fuel (listed.setIfInBounds i true) s') E [o] s):yS P N all Q E (fuel + 1) listed s :=
 v7 hr (by simp) fun j hj => by rw [List.mem_singleton] at hj;subst hj;exact ⟨o,ho,h⟩
theorem jM {i i':Nat}{o o':Oper}(hr:Region.ready .any all listed = [i,i']) (ho:all[i]? = some o) (ho':all[i']? = some o') (h:rV P N all (fun e s' E' => e = .normal ∧ yS P N all Q E' fuel (listed.setIfInBounds i true) s') E [o] s)
  (h' : rV P N all (fun e s' E' => e = .normal ∧ yS P N all Q E' fuel (listed.setIfInBounds i' true) s') E [o'] s) : yS P N all Q E (fuel + 1) listed s :=
 v7 hr (by simp) fun j hj => by
  simp only [List.mem_cons,List.not_mem_nil,or_false] at hj
  rcases hj with rfl|rfl
  ·exact ⟨o,ho,h⟩
  ·exact ⟨o',ho',h'⟩
theorem eR (h:Q .normal s E) (hr:Region.ready .any all listed = []):yS P N all Q E fuel listed s:=by
 intro C a w hN g
 cases fuel with
 | zero => exact ⟨hr,s,E,h,g⟩
 | succ n => exact ⟨fun _ => ⟨s,E,h,g⟩,fun i hi => by rw [hr] at hi;cases hi⟩
theorem tW {id:Nat}{l:List Oper}(hm:P.follows .mixedOrders = true) (h:yS P N l.toArray Q E l.length (Array.replicate l.length false) s):cC P N (.region id l.toArray true) Q E s:=by
 intro C a w hN g
 refine wp_region_any hm ?_
 have := h C a _ hN g.drew
 simpa using this
end
theorem oC {P:Program}{N:Nat}{Q:Exit → AS → dE → Prop}{E:dE}{all:Array Oper}{rest:List Oper}{s:AS}{ty:TypeId}{pos:String}{af:Array Edge}{dst:Option Tmp}{op:Op}{j e:Nat}{want b:Bool}(hj:(all[j]?).bind (·.dst) = some e) (hb:lk s.ts e = some (.v (.bool b))) (hw:b = want) (h:rV P N all Q E (⟨dst,op,ty,pos,af,none⟩ :: rest) s) :
  rV P N all Q E (⟨dst,op,ty,pos,af,some (j,want)⟩ :: rest) s := by
 subst hw
 intro C a w hN g
 have h' := h C a w hN g
 obtain ⟨wb,hX,f,h1,h2,h3,h0,ι,g,gh⟩ := g
 have hyl : yielded all a.tmps j = some b := by
  obtain ⟨y,hy,hr⟩ := g.tm e _ hb
  simp only [Rd] at hr
  subst hr
  simp [yielded,hj,hy]
 unfold wpList at h' ⊢
 simp only [Region.wanted,hyl,if_true,beq_self_eq_true] at h' ⊢
 exact h'
theorem zB {P:Program}{k:FuncId}{fn:Func}{c:Code}{avs:List AV}{E0 E0':dE}{k1:Int}(hf:P.funcs[k]? = some fn) (hb:fn.body = some c) (hN:avs.length ≤ fn.ntmps)
  (h : cC P fn.ntmps c (fun x s E => (x = .ret ∨ x = .normal) ∧ iQ P (lk s.ts) (aQ s.hs) fn.results.toList = some [iv k1] ∧ E = E0') E0 ⟨dJ 0 avs,[],0,⟨0,aY⟩⟩) (hfr : jX avs = true) : Kd P k avs E0 E0' k1 := by
 intro w vals hv0 x8
 refine calls_of_wp hf hb ?_
 let C : Ctx := { N := fn.ntmps,w0 := w,W0 := fun q => q ∈ bl E0,X := fun _ => False,ι0 := fun _ => none,xlt := fun _ q => q.elim }
 have hX : ∀ q,C.X q ∨ q ∈ bl E0 → q < w.heap.size := fun q hq => hq.elim (fun q => q.elim) (x8.lt q)
 have hlen := RdV.length hv0
 have hv : RdV w (aC (fP C w E0 hX).X (fun _ => none) (aQ [])) (fun _ => none) avs vals := RdV.freeV _ _ hfr hv0
 have gh : HG (fP C w E0 hX) (fun _ => none) (Fn 0 ⟨0, aY⟩) (aQ []) w :=
  ⟨fun id cs h => by simp [aQ] at h,fun id id' cs cs' b β β' h => by simp [aQ] at h,Fr.refl _ _,fun _ _ h => h,fun _ _ => rfl⟩
 have gt : TG (fP C w E0 hX) (fun _ => none) (lk (dJ 0 avs)) (aQ []) { tmps := vals.toArray ++ Array.replicate (fn.ntmps - vals.toArray.size) undef, defers := [] } w := by
  refine ⟨rfl,by simp [fP,C,hlen]; omega,fun t av ht => ?_⟩
  obtain ⟨y,_,h1,h2⟩ := iZ hv ht
  refine ⟨y,?_,h2⟩
  have hlt : t < vals.length := by
   rcases Nat.lt_or_ge t vals.length with q|q
   ·exact q
   ·rw [List.getElem?_eq_none (by simpa using q)] at h1;cases h1
  rw [Array.getElem?_append_left (by simpa using hlt)]
  simpa using h1
 have gT : GsT C ⟨dJ 0 avs, [], 0, ⟨0, aY⟩⟩ E0 { tmps := vals.toArray ++ Array.replicate (fn.ntmps - vals.toArray.size) undef, defers := [] } w :=
  ⟨w,hX,Fr.refl _ _,fun q hq => .inr hq,fun _ _ q => q,x8,fun id hid => .inr rfl,fun _ => none,gt,gh⟩
 refine wp_mono (h C _ w rfl gT) ?_
 rintro x a' w' ⟨s1,E',⟨he,hres,rfl⟩,gT'⟩
 have hT' := gT'.tree
 have gD := gT'.drop
 have hfr : Fr (fun q => q ∈ bl E0) w w' := by obtain ⟨_,_,_,gh'⟩ := gD;exact gh'.fr
 obtain ⟨wb,hX',f,p1,p2,p3,h0',ι,g1,g2⟩ := gT'
 obtain ⟨ys,q1,q2⟩ := lO (P := P) g1 g2 hres
 have hys : ys = [.int .i64 k1] := by
  simp only [RdV,Rd] at q2
  obtain ⟨_,_,rfl,rfl,rfl⟩ := q2
  rfl
 subst hys
 have hres' : (results fn a'.tmps).run P w' = .ok (.int .i64 k1) w' := by
  have hr1 : results fn a'.tmps = (do let vs ← fn.results.mapM (rS a'); pure (if h : vs.size = 1 then vs[0] else .tuple vs)) := by
   unfold results
   congr 1
  rw [hr1,Array.mapM_eq_mapM_toList,Sem.run_bind,Sem.run_map,q1]
  simp only [Result.andThen_ok,Sem.run_pure]
  rfl
 rcases he with rfl|rfl
 ·exact ⟨g1.df,_,hres',rfl,hfr,hT'⟩
 ·exact ⟨g1.df,_,hres',rfl,hfr,hT'⟩
theorem G0 {P:Program}{res:Array ResultVar}{R:AV → dE → Prop}{s:AS}{E:dE}{l:List AV}(hr:iQ P (lk s.ts) (aQ s.hs) res.toList = some l){r:AV}(e:aR l = r) (hf:r.free = true) (hR:R r [(.ints [],.slice none 0 0,[])]):xL P res R .ret s E:=by
 subst e
 exact ⟨.inl rfl,l,hr,fun C ι F w y g hy hT hd => ⟨_,[(.ints [],.slice none 0 0,[])],hR,hf,Rd.free _ _ hf hy,TrE.one (show TrI w [] _ _ from .nil) List.nodup_nil,fun b hb => by simp [bl] at hb⟩⟩
theorem Ho {P:Program}{res:Array ResultVar}{R:AV → dE → Prop}{s:AS}{E:dE}{l:List AV}(hr:iQ P (lk s.ts) (aQ s.hs) res.toList = some l){r:AV}(e:aR l = r) (hf:r.free = true){E':dE}(hE:∀ w,TrE E' w) (hB:bl E' = []) (hR:R r E'):xL P res R .ret s E:=by
 subst e
 exact ⟨.inl rfl,l,hr,fun C ι F w y g hy hT hd => ⟨_,E',hR,hf,Rd.free _ _ hf hy,hE w,fun b hb => by rw [hB] at hb;cases hb⟩⟩
theorem Gm {C:Ctx}{ι:Pl}{F:Nat → Prop}{H:Nat → Option (List AV)}{w:World}(g:HG C ι F H w){i n:Nat}{L:List Int}{y:Value}(hy:Rd w (aC C.X ι H) ι (.own i 0 n 1) y) (hH:H i = some (flat cI L)) (hn:n = L.length) :
  ∃ a c B,y = .slice a L.length c ∧ TrI w L y B ∧ B.Nodup ∧ ∀ b ∈ B,∃ β,ι i = some (some (b,β)) := by
 subst hn
 rcases Nat.eq_zero_or_pos L.length with h0|h0
 ·have hL : L = [] := List.eq_nil_of_length_eq_zero h0
  subst hL
  obtain ⟨a,c,rfl⟩ := o8 hy
  exact ⟨_,_,[],rfl,.nil,List.nodup_nil,fun b hb => by cases hb⟩
 ·obtain ⟨b, β, c, arr, el, q1, rfl, q3, q4, q5, q6⟩ := uG g hy hH h0
  refine ⟨_,_,[b],rfl,.cons h0 q3 q4 (by omega) (mU L β q6),by simp,fun b' hb => ?_⟩
  rw [List.mem_singleton] at hb;subst hb;exact ⟨β,q1⟩
theorem DX {P:Program}{res:Array ResultVar}{R:AV → dE → Prop}{s:AS}{E:dE}{l:List AV}(hr:iQ P (lk s.ts) (aQ s.hs) res.toList = some l){i n:Nat}{L:List Int}{x:AV}(e:aR l = .tup [x,.own i 0 n 1]) (hx:x.free = true) (hH:aQ s.hs i = some (flat cI L)) (hn:n = L.length)
  (hR : ∀ a c B,R (.tup [x,.v (.slice a L.length c)]) (E ++ [(.ints L,.slice a L.length c,B)])) : xL P res R .ret s E := by
 refine ⟨.inl rfl,l,hr,fun C ι F w y g hy hT hd => ?_⟩
 rw [e] at hy
 simp only [Rd,RdV] at hy
 obtain ⟨ys,rfl,y0,l0,rfl,h0,y1,l1,rfl,h1,rfl⟩ := hy
 obtain ⟨a,c,B,rfl,h2,h3,h4⟩ := Gm g (by simpa only [Rd] using h1) hH hn
 have hx' := Rd.free (bad2 := fun _ => False) (ι2 := fun _ => none) _ _ hx h0
 refine ⟨_,_,hR a c B,by simp [AV.free,jX,hx],?_,hT.app (TrE.one (by simp only [TrX]; exact h2) h3) fun b hb q => ?_,fun b hb => ?_⟩
 ·simp only [Rd, RdV]
  exact ⟨_,rfl,_,_,rfl,hx',_,_,rfl,rfl,rfl⟩
 ·obtain ⟨β, q⟩ := h4 b (by simpa [bl] using q)
  exact hd i _ b β hH q hb
 ·rw [jP, List.mem_append] at hb
  rcases hb with hb|hb
  ·exact .inl hb
  ·obtain ⟨β, q⟩ := h4 b (by simpa [bl] using hb)
   exact .inr ⟨i,_,β,hH,q⟩
theorem GsT.less {C:Ctx}{s:AS}{E E2:dE}{a:Act}{w:World}(h:GsT C s E a w) (hT2:∀ w,TrE E w → TrE E2 w) (hin:∀ b,b ∈ bl E2 → b ∈ bl E):GsT C s E2 a w:=by
 have hT := h.tree
 obtain ⟨wb,hX,f,h1,h2,h3,h0,ι,g,gh⟩ := h
 have hW : ∀ b,(fP C wb _ hX).W0 b → C.W0 b ∨ C.w0.heap.size ≤ b := fun b q => q.1
 have fw : Fr C.W0 C.w0 w := f.trans2 gh.fr hW
 have hT' : TrE E2 w := hT2 w hT
 have hX' : ∀ b, C.X b ∨ b ∈ bl E2 → b < w.heap.size := by
  rintro b (q|q)
  ·exact Nat.lt_of_lt_of_le (C.xlt b q) fw.size
  ·exact hT'.lt b q
 have hbad : ∀ b, aC (fP C w E2 hX').X ι (aQ s.hs) b → aC (fP C wb _ hX).X ι (aQ s.hs) b := by
  rintro b (q|q)
  ·rcases q with q | q
   ·exact .inl (.inl q)
   ·exact .inl (.inr (hin b q))
  ·exact .inr q
 have car : Carry w (aC (fP C wb _ hX).X ι (aQ s.hs)) ι w (aC (fP C w E2 hX').X ι (aQ s.hs)) ι := ⟨fun b o x q1 q2 => ⟨fun q => q1 (hbad b q),q2⟩,fun _ _ h => h,fun _ => Nat.le_refl _⟩
 refine ⟨w,hX',fw,fun b hb => h1 b (hin b hb),fun b hb => h2 b (hin b hb),hT',h0,ι,TG.carryC (C := fP C wb _ hX) (C' := fP C w E2 hX') rfl g car,⟨fun id cs h => ?_,gh.sep,Fr.refl _ _,gh.ex,gh.fresh⟩⟩
 rcases gh.obj id cs h with q | ⟨b,β,arr,e,q1,q2,q3,q4,q5,q6⟩
 ·exact .inl q
 ·refine .inr ⟨b, β, arr, e, q1, q2, q3, RdC.carryB car _ _ _ (fun o y hy => hy) q4, ?_, .inl ⟨?_, ?_⟩⟩
  ·rintro (q | q)
   ·exact q5 (.inl q)
   ·exact q5 (.inr (hin b q))
  ·rcases q6 with q6 | q6
   ·exact hW b q6
   ·exact .inr (Nat.le_trans f.size q6)
  ·exact fun q => q5 (.inr (hin b q))
theorem GsT.opn {C:Ctx}{ts:List (Nat × AV)}{hs:List (Nat × Option (List AV))}{n:Nat}{z0:Lo}{E1 E2:dE}{l:List Stmt}{ad:Option Addr}{c:Nat}{B:List Nat}{a:Act}{w:World}{d:Nat}(hd:lk ts d = some (.v (.slice ad l.length c))) (hl:0 < l.length) (hn:n < aY)
  (h : GsT C ⟨ts,hs,n,z0⟩ (E1 ++ ([(.stms l,.slice ad l.length c,B)] ++ E2)) a w) : ∃ xs : List SX,xs.map (·.1) = l ∧ xs.length = l.length ∧ GsT C ⟨(d,.own n 0 l.length 6) :: ts,(n,some (flat cT xs)) :: hs,n + 1,z0⟩ (E1 ++ (eN xs ++ E2)) a w := by
 have hT := h.tree
 obtain ⟨wb,hX,f,h1,h2,h3,h0,ι,g,gh⟩ := h
 have hB : bl [((.stms l,.slice ad l.length c,B) : TD × Value × List Nat)] = B := by simp [bl]
 have hmem : ((.stms l,.slice ad l.length c,B) : TD × Value × List Nat) ∈ E1 ++ ([(.stms l,.slice ad l.length c,B)] ++ E2) := List.mem_append.2 (.inr (List.mem_append.2 (.inl (List.mem_singleton.2 rfl))))
 have hx := hT.t _ hmem
 simp only [TrX] at hx
 have hnd := hT.nd
 rw [c7,hB,List.nodup_append,List.nodup_append] at hnd
 obtain ⟨n1,⟨n2,n3,n4⟩,n5⟩ := hnd
 obtain ⟨xs,b,β,c',arr,el,x1,x2,x3,x4,x5,x6,x7,x8,x9⟩ := hx.open n2 hl
 cases x3
 subst x7
 have hnx := List.nodup_cons.1 n2
 have heq : ∀ q, q ∈ bl (E1 ++ (eN xs ++ E2)) → q ∈ bl (E1 ++ ([(.stms l, .slice (some ⟨b, β, none⟩) l.length c, b :: bl (eN xs))] ++ E2)) := fun q hq => by
  rw [c7,List.mem_append,List.mem_append] at hq
  rw [c7,hB,List.mem_append,List.mem_append,List.mem_cons]
  rcases hq with hq|hq|hq
  ·exact .inl hq
  ·exact .inr (.inl (.inr hq))
  ·exact .inr (.inr hq)
 have hbE : b ∈ bl (E1 ++ ([(.stms l, .slice (some ⟨b, β, none⟩) l.length c, b :: bl (eN xs))] ++ E2)) := by
  rw [c7,hB,List.mem_append,List.mem_append]; exact .inr (.inl (List.mem_cons_self))
 have hbn : b ∉ bl (E1 ++ (eN xs ++ E2)) := by
  rw [c7,List.mem_append,List.mem_append]
  rintro (q|q|q)
  ·exact n5 b q b (List.mem_append.2 (.inl (List.mem_cons_self))) rfl
  ·exact hnx.1 q
  ·exact n4 b (List.mem_cons_self) b q rfl
 have hW : ∀ b,(fP C wb _ hX).W0 b → C.W0 b ∨ C.w0.heap.size ≤ b := fun b q => q.1
 have fw : Fr C.W0 C.w0 w := f.trans2 gh.fr hW
 have hT' : TrE (E1 ++ (eN xs ++ E2)) w := by
  refine ⟨fun t ht => ?_,?_⟩
  ·rcases List.mem_append.1 ht with ht | ht
   ·exact hT.t t (List.mem_append.2 (.inl ht))
   ·rcases List.mem_append.1 ht with ht | ht
    ·exact x8.t t ht
    ·exact hT.t t (List.mem_append.2 (.inr (List.mem_append.2 (.inr ht))))
  ·rw [c7, List.nodup_append, List.nodup_append]
   refine ⟨n1,⟨x8.nd,n3,fun p hp q hq => n4 p (List.mem_cons_of_mem _ hp) q hq⟩,fun p hp q hq => n5 p hp q ?_⟩
   rcases List.mem_append.1 hq with hq|hq
   ·exact List.mem_append.2 (.inl (List.mem_cons_of_mem _ hq))
   ·exact List.mem_append.2 (.inr hq)
 have hX' : ∀ b, C.X b ∨ b ∈ bl (E1 ++ (eN xs ++ E2)) → b < w.heap.size := by
  rintro b (q|q)
  ·exact Nat.lt_of_lt_of_le (C.xlt b q) fw.size
  ·exact hT'.lt b q
 have hf : ι n = none := gh.fresh n ⟨Nat.le_refl _,.inl hn⟩
 let ι' : Pl := dK ι n (some (some (b,β)))
 have hnn : ι' n = some (some (b,β)) := by simp only [ι',upd_same]
 have hne : ∀ id p, ι id = some p → ι' id = some p := by
  intro id p h
  have : id ≠ n := by rintro rfl;rw [hf] at h;cases h
  simp only [ι',bC _ _ this,h]
 have hne' : ∀ id,id ≠ n → ι' id = ι id := fun id h => by simp only [ι',bC _ _ h]
 have hHn : aQ ((n,some (flat cT xs)) :: hs) n = some (flat cT xs) := by rw [cA,if_pos rfl]
 have hHo : ∀ id,id ≠ n → aQ ((n,some (flat cT xs)) :: hs) id = aQ hs id := fun id h => by rw [cA,if_neg h]
 have hobE : ∀ id cs q β', aQ hs id = some cs → ι id = some (some (q, β')) → q ∉ bl (E1 ++ ([(.stms l, .slice (some ⟨b, β, none⟩) l.length c, b :: bl (eN xs))] ++ E2)) := fun id cs q β' q1 q2 q3 => by
  rcases gh.obj id cs q1 with ⟨r1,_⟩ | ⟨b',β',arr',e',r1,r2,r3,r4,r5,r6⟩
  ·rw [r1] at q2;cases q2
  ·rw [r1] at q2;cases q2;exact r5 (.inr q3)
 have hbad : ∀ q, aC (fP C w _ hX').X ι' (aQ ((n, some (flat cT xs)) :: hs)) q → aC (fP C wb _ hX).X ι (aQ hs) q := by
  rintro q (q1 | ⟨id,cs,β',q1,q2⟩)
  ·rcases q1 with q1 | q1
   ·exact .inl (.inl q1)
   ·exact .inl (.inr (heq q q1))
  ·by_cases e : id = n
   ·subst e
    rw [hnn] at q2;cases q2
    exact .inl (.inr hbE)
   ·rw [hHo id e] at q1; rw [hne' id e] at q2
    exact .inr ⟨id,cs,β',q1,q2⟩
 have car : Carry w (aC (fP C wb _ hX).X ι (aQ hs)) ι w (aC (fP C w _ hX').X ι' (aQ ((n,some (flat cT xs)) :: hs))) ι' := ⟨fun b o x q1 q2 => ⟨fun q => q1 (hbad b q),q2⟩,hne,fun _ => Nat.le_refl _⟩
 refine ⟨xs,x1,x2,w,hX',fw,fun q hq => h1 q (heq q hq),fun q hq => h2 q (heq q hq),hT',h0,ι',⟨g.df,g.sz,fun t av ht => ?_⟩,⟨fun id cs h => ?_,fun id id' cs cs' q β1 β2 r1 r2 r3 r4 => ?_,Fr.refl _ _,fun id p h => hne _ _ (gh.ex _ _ h),fun id h => ?_⟩⟩
 ·rw [show lk (⟨(d, .own n 0 l.length 6) :: ts, (n, some (flat cT xs)) :: hs, n + 1, z0⟩ : AS).ts t = lk ((d, .own n 0 l.length 6) :: ts) t from rfl, iE] at ht
  split at ht
  ·rename_i et
   subst et
   cases ht
   obtain ⟨y,hy,hr⟩ := g.tm t _ hd
   refine ⟨y,hy,?_⟩
   simp only [Rd] at hr ⊢
   exact .inr ⟨b,β,c,hnn,hr,x4,by unfold oA;rw [x5]; simpa using x6⟩
  ·obtain ⟨y, hy, hr⟩ := g.tm t av ht
   exact ⟨y,hy,Rd.carry car _ _ hr⟩
 ·by_cases e : id = n
  ·subst e
   rw [show aQ (⟨(d,.own id 0 l.length 6) :: ts,(id,some (flat cT xs)) :: hs,id + 1,z0⟩ : AS).hs id = _ from hHn] at h
   cases h
   refine .inr ⟨b,β,arr,el,hnn,x5,?_,x9 _ _,?_,.inl ⟨(h1 b hbE).symm,hbn⟩⟩
   ·rw [aI cT (e := 6),x2]; have := Nat.mul_le_mul_right 6 x4;omega
   ·rintro (q | q)
    ·exact h2 b hbE q
    ·exact hbn q
  ·have h' : aQ hs id = some cs := by rw [← hHo id e]; exact h
   rcases gh.obj id cs h' with ⟨r1,r2⟩ | ⟨b',β',arr',e',r1,r2,r3,r4,r5,r6⟩
   ·exact .inl ⟨hne _ _ r1,r2⟩
   ·refine .inr ⟨b', β', arr', e', hne _ _ r1, r2, r3, RdC.carryB car _ _ _ (fun o y hy => hy) r4, ?_, .inl ⟨?_, ?_⟩⟩
    ·rintro (q | q)
     ·exact r5 (.inl q)
     ·exact r5 (.inr (heq _ q))
    ·rcases r6 with r6 | r6
     ·exact hW _ r6
     ·exact .inr (Nat.le_trans f.size r6)
    ·exact fun q => r5 (.inr (heq _ q))
 ·by_cases e : id = n
  ·by_cases e' : id' = n
   ·rw [e,e']
   ·subst e
    have r2' : aQ hs id' = some cs' := by rw [← hHo id' e']; exact r2
    rw [hne' id' e'] at r4
    rw [hnn] at r3;cases r3
    exact absurd hbE (hobE id' cs' _ _ r2' r4)
  ·have r1' : aQ hs id = some cs := by rw [← hHo id e]; exact r1
   rw [hne' id e] at r3
   by_cases e' : id' = n
   ·subst e'
    rw [hnn] at r4;cases r4
    exact absurd hbE (hobE id cs _ _ r1' r3)
   ·have r2' : aQ hs id' = some cs' := by rw [← hHo id' e']; exact r2
    rw [hne' id' e'] at r4
    exact gh.sep id id' cs cs' q β1 β2 r1' r2' r3 r4
 ·have hid : n + 1 ≤ id := h.1
  show ι' id = none
  rw [hne' id (by omega)]
  exact gh.fresh id ⟨by show n ≤ id;omega,h.2⟩
theorem GsT.cls {C:Ctx}{ts:List (Nat × AV)}{hs:List (Nat × Option (List AV))}{n:Nat}{z0:Lo}{E1 E0 E2:dE}{i m:Nat}{ys:List SX}{a:Act}{w:World}{d:Nat}(hd:lk ts d = some (.own i 0 m 6)) (hH:aQ hs i = some (flat cT ys)) (hm:m = ys.length)
  (hT0 : ∀ w,TrE E0 w → TrE (eN ys) w) (hin : ∀ b,b ∈ bl (eN ys) → b ∈ bl E0)
  (h : GsT C ⟨ts,hs,n,z0⟩ (E1 ++ (E0 ++ E2)) a w) : ∃ ad c B,GsT C ⟨(d,.v (.slice ad m c)) :: ts,(i,none) :: hs,n,z0⟩ (E1 ++ ([(.stms (ys.map (·.1)),.slice ad m c,B)] ++ E2)) a w := by
 subst hm
 have hT := h.tree
 have hnd := hT.nd
 rw [c7,List.nodup_append,List.nodup_append] at hnd
 obtain ⟨n1,⟨n2,n3,n4⟩,n5⟩ := hnd
 have hTy : TrE (eN ys) w := hT0 w hT.sub
 obtain ⟨wb,hX,f,h1,h2,h3,h0,ι,g,gh⟩ := h
 obtain ⟨y,hy,hr⟩ := g.tm d _ hd
 have hW : ∀ b,(fP C wb _ hX).W0 b → C.W0 b ∨ C.w0.heap.size ≤ b := fun b q => q.1
 have fw : Fr C.W0 C.w0 w := f.trans2 gh.fr hW
 have hkey : ∃ ad c B, y = .slice ad ys.length c ∧ TrH w (ys.map (·.1)) (.slice ad ys.length c) B ∧ B.Nodup ∧ ∀ b ∈ B, b ∈ bl E0 ∨ ∃ β, ι i = some (some (b, β)) := by
  rcases Nat.eq_zero_or_pos ys.length with hz|hz
  ·have hL : ys = [] := List.eq_nil_of_length_eq_zero hz
   subst hL
   obtain ⟨ad,c,rfl⟩ := o8 hr
   exact ⟨ad,c,[],rfl,.nil,List.nodup_nil,fun b hb => by cases hb⟩
  ·obtain ⟨b, β, c, arr, el, q1, rfl, q3, q4, q5, q6⟩ := uG gh hr hH hz
   refine ⟨_,_,b :: bl (eN ys),rfl,DI hz q3 q4 q5 q6 hTy,List.nodup_cons.2 ⟨fun q => ?_,hTy.nd⟩,fun b' hb => ?_⟩
   ·rcases gh.obj i _ hH with ⟨r1, _⟩ | ⟨b', β', arr', e', r1, r2, r3, r4, r5, r6⟩
    ·rw [r1] at q1;cases q1
    ·rw [r1] at q1; cases q1
     refine r5 (.inr ?_)
     rw [c7,List.mem_append,List.mem_append]; exact .inr (.inl (hin _ q))
   ·rcases List.mem_cons.1 hb with rfl | hb
    ·exact .inr ⟨β,q1⟩
    ·exact .inl (hin _ hb)
 obtain ⟨ad,c,B,rfl,hTr,hBn,hBs⟩ := hkey
 have hobE : ∀ id cs q β', aQ hs id = some cs → ι id = some (some (q, β')) → ¬ C.X q ∧ q ∉ bl (E1 ++ (E0 ++ E2)) ∧ q < w.heap.size ∧ (C.W0 q ∨ C.w0.heap.size ≤ q) := fun id cs q β' q1 q2 => by
  rcases gh.obj id cs q1 with ⟨r1,_⟩ | ⟨b',β',arr',e',r1,r2,r3,r4,r5,r6⟩
  ·rw [r1] at q2;cases q2
  ·rw [r1] at q2; cases q2
   exact ⟨fun q => r5 (.inl q), fun q => r5 (.inr q), cL r2, by
    rcases r6 with r6|r6
    ·exact hW _ r6
    ·exact .inr (Nat.le_trans f.size r6)⟩
 have hB : bl [((.stms (ys.map (·.1)),.slice ad ys.length c,B) : TD × Value × List Nat)] = B := by simp [bl]
 have hBf : ∀ b ∈ B,b ∈ bl (E1 ++ (E0 ++ E2)) ∨ ∃ β,ι i = some (some (b,β)) := fun b hb => (hBs b hb).imp (fun q => by rw [c7,List.mem_append,List.mem_append]; exact .inr (.inl q)) id
 have hsp : ∀ q, q ∈ bl (E1 ++ ([(.stms (ys.map (·.1)), .slice ad ys.length c, B)] ++ E2)) → q ∈ bl (E1 ++ (E0 ++ E2)) ∨ ∃ β, ι i = some (some (q, β)) := fun q hq => by
  rw [c7,hB,List.mem_append,List.mem_append] at hq
  rcases hq with hq|hq|hq
  ·exact .inl (by rw [c7,List.mem_append,List.mem_append]; exact .inl hq)
  ·exact hBf q hq
  ·exact .inl (by rw [c7,List.mem_append,List.mem_append]; exact .inr (.inr hq))
 have hT' : TrE (E1 ++ ([(.stms (ys.map (·.1)), .slice ad ys.length c, B)] ++ E2)) w := by
  refine ⟨fun t ht => ?_,?_⟩
  ·rcases List.mem_append.1 ht with ht | ht
   ·exact hT.t t (List.mem_append.2 (.inl ht))
   ·rcases List.mem_append.1 ht with ht | ht
    ·rw [List.mem_singleton] at ht;subst ht;simp only [TrX]; exact hTr
    ·exact hT.t t (List.mem_append.2 (.inr (List.mem_append.2 (.inr ht))))
  ·rw [c7, hB, List.nodup_append, List.nodup_append]
   refine ⟨n1,⟨hBn,n3,fun p hp q hq e => ?_⟩,fun p hp q hq e => ?_⟩
   ·subst e
    rcases hBs p hp with r | ⟨β,r⟩
    ·exact n4 p r p hq rfl
    ·exact (hobE i _ p β hH r).2.1 (by rw [c7,List.mem_append,List.mem_append]; exact .inr (.inr hq))
   ·subst e
    rcases List.mem_append.1 hq with hq|hq
    ·rcases hBs p hq with r | ⟨β, r⟩
     ·exact n5 p hp p (List.mem_append.2 (.inl r)) rfl
     ·exact (hobE i _ p β hH r).2.1 (by rw [c7,List.mem_append,List.mem_append]; exact .inl hp)
    ·exact n5 p hp p (List.mem_append.2 (.inr hq)) rfl
 have hX' : ∀ b, C.X b ∨ b ∈ bl (E1 ++ ([(.stms (ys.map (·.1)), .slice ad ys.length c, B)] ++ E2)) → b < w.heap.size := by
  rintro b (q|q)
  ·exact Nat.lt_of_lt_of_le (C.xlt b q) fw.size
  ·exact hT'.lt b q
 have hHi : ∀ id cs, aQ ((i, none) :: hs) id = some cs → id ≠ i ∧ aQ hs id = some cs := fun id cs h => by
  rw [cA] at h
  split at h
  ·cases h
  ·rename_i e;exact ⟨e,h⟩
 have hbad : ∀ q, aC (fP C w _ hX').X ι (aQ ((i, none) :: hs)) q → aC (fP C wb _ hX).X ι (aQ hs) q := by
  rintro q (q1 | ⟨id,cs,β',q1,q2⟩)
  ·rcases q1 with q1 | q1
   ·exact .inl (.inl q1)
   ·rcases hsp q q1 with r | ⟨β, r⟩
    ·exact .inl (.inr r)
    ·exact .inr ⟨i,_,β,hH,r⟩
  ·exact .inr ⟨id,cs,β',(hHi _ _ q1).2,q2⟩
 have car : Carry w (aC (fP C wb _ hX).X ι (aQ hs)) ι w (aC (fP C w _ hX').X ι (aQ ((i,none) :: hs))) ι := ⟨fun b o x q1 q2 => ⟨fun q => q1 (hbad b q),q2⟩,fun _ _ h => h,fun _ => Nat.le_refl _⟩
 refine ⟨ad,c,B,w,hX',fw,fun q hq => ?_,fun q hq => ?_,hT',h0,ι,⟨g.df,g.sz,fun t av ht => ?_⟩,⟨fun id cs h => ?_,fun id id' cs cs' q β1 β2 r1 r2 r3 r4 => gh.sep id id' cs cs' q β1 β2 (hHi _ _ r1).2 (hHi _ _ r2).2 r3 r4,Fr.refl _ _,gh.ex,gh.fresh⟩⟩
 ·rcases hsp q hq with r | ⟨β, r⟩
  ·exact h1 q r
  ·exact (hobE i _ q β hH r).2.2.2.symm
 ·rcases hsp q hq with r | ⟨β, r⟩
  ·exact h2 q r
  ·exact (hobE i _ q β hH r).1
 ·rw [show lk (⟨(d, .v (.slice ad ys.length c)) :: ts, (i, none) :: hs, n, z0⟩ : AS).ts t = lk ((d, .v (.slice ad ys.length c)) :: ts) t from rfl, iE] at ht
  split at ht
  ·rename_i et
   subst et
   cases ht
   exact ⟨_,hy,by simp only [Rd]⟩
  ·obtain ⟨y, hy, hr⟩ := g.tm t av ht
   exact ⟨y,hy,Rd.carry car _ _ hr⟩
 ·obtain ⟨hid, h'⟩ := hHi id cs h
  rcases gh.obj id cs h' with ⟨r1,r2⟩ | ⟨b',β',arr',e',r1,r2,r3,r4,r5,r6⟩
  ·exact .inl ⟨r1,r2⟩
  ·have hnb : b' ∉ bl (E1 ++ ([(.stms (ys.map (·.1)), .slice ad ys.length c, B)] ++ E2)) := fun q => by
    rcases hsp b' q with r | ⟨β,r⟩
    ·exact r5 (.inr r)
    ·exact hid (gh.sep id i _ _ b' β' β h' hH r1 r)
   refine .inr ⟨b',β',arr',e',r1,r2,r3,RdC.carryB car _ _ _ (fun o y hy => hy) r4,?_,.inl ⟨?_,hnb⟩⟩
   ·rintro (q | q)
    ·exact r5 (.inl q)
    ·exact hnb q
   ·rcases r6 with r6 | r6
    ·exact hW _ r6
    ·exact .inr (Nat.le_trans f.size r6)
section
variable {P : Program} {N : Nat} {Q : Exit → AS → dE → Prop} {E E2 : dE} {all : Array Oper} {rest : List Oper} {s : AS}
variable {ts : List (Nat × AV)} {hs : List (Nat × Option (List AV))} {n : Nat} {z0 : Lo}
theorem Gf (E1 E2:dE){l:List Stmt}{ad:Option Addr}{c:Nat}{B:List Nat}(d:Nat) (hE:E = E1 ++ ([(.stms l,.slice ad l.length c,B)] ++ E2)) (hd:lk ts d = some (.v (.slice ad l.length c))) (hl:0 < l.length) (hn:n < aY)
  (h : ∀ xs : List SX,xs.map (·.1) = l → xs.length = l.length → rV P N all Q (E1 ++ (eN xs ++ E2)) rest ⟨(d,.own n 0 l.length 6) :: ts,(n,some (flat cT xs)) :: hs,n + 1,z0⟩) : rV P N all Q E rest ⟨ts,hs,n,z0⟩ := by
 subst hE
 intro C a w hN g
 obtain ⟨xs,h1,h2,g2⟩ := g.opn hd hl hn
 exact h xs h1 h2 C a w hN g2
theorem HB (E1 E0 E2:dE){i m:Nat}{ys:List SX}(d:Nat) (hE:E = E1 ++ (E0 ++ E2)) (hd:lk ts d = some (.own i 0 m 6)) (hH:aQ hs i = some (flat cT ys)) (hm:m = ys.length) (hT0:∀ w,TrE E0 w → TrE (eN ys) w) (hin:∀ b,b ∈ bl (eN ys) → b ∈ bl E0)
  (h : ∀ ad c B,rV P N all Q (E1 ++ ([(.stms (ys.map (·.1)),.slice ad m c,B)] ++ E2)) rest ⟨(d,.v (.slice ad m c)) :: ts,(i,none) :: hs,n,z0⟩) : rV P N all Q E rest ⟨ts,hs,n,z0⟩ := by
 subst hE
 intro C a w hN g
 obtain ⟨ad,c,B,g2⟩ := g.cls hd hH hm hT0 hin
 exact h ad c B C a w hN g2
end
section
variable {P : Program} {N : Nat} {Q : Exit → AS → dE → Prop} {E : dE} {all : Array Oper} {s : AS} {fuel : Nat} {listed : Array Bool}
theorem rw_post {l:List Oper}{K K':AS → Prop}(h:RW P N all (fun e s' => e = .normal ∧ K s') .txt l s) (k:∀ s',K s' → K' s'):RW P N all (fun e s' => e = .normal ∧ K' s') .txt l s:=by
 intro C a w hN g
 have := jL (P := P) (all := all) (Q2 := fun e a' w' => ∃ s',(e = .normal ∧ K' s') ∧ Gs C s' a' w') (l2 := []) (fun e a' w' ⟨s',⟨h1,h2⟩,h3⟩ => ⟨h1,wpList_nil ⟨s',⟨rfl,k _ h2⟩,h3⟩⟩) l a w (h C a w hN g)
 rwa [List.append_nil] at this
theorem aT {i:Nat}{o:Oper}(hr:Region.ready .any all listed = [i]) (ho:all[i]? = some o) (h:RW P N all (fun e s' => e = .normal ∧ yS P N all Q E fuel (listed.setIfInBounds i true) s') .txt [o] s):yS P N all Q E (fuel + 1) listed s :=
 dY hr ho (aS (l1 := [o]) (l2 := []) (rw_post h fun s' h2 => aK ⟨rfl,h2⟩))
theorem jW {i i':Nat}{o o':Oper}(hr:Region.ready .any all listed = [i,i']) (ho:all[i]? = some o) (ho':all[i']? = some o') (h:RW P N all (fun e s' => e = .normal ∧ yS P N all Q E fuel (listed.setIfInBounds i true) s') .txt [o] s)
  (h' : RW P N all (fun e s' => e = .normal ∧ yS P N all Q E fuel (listed.setIfInBounds i' true) s') .txt [o'] s) : yS P N all Q E (fuel + 1) listed s :=
 jM hr ho ho' (aS (l1 := [o]) (l2 := []) (rw_post h fun s' h2 => aK ⟨rfl,h2⟩)) (aS (l1 := [o']) (l2 := []) (rw_post h' fun s' h2 => aK ⟨rfl,h2⟩))
theorem mP {σ:Type}{c1 c2:Code}{ts:List (Nat × AV)}{hs:List (Nat × Option (List AV))}{n:Nat}{z0:Lo}(kl:List Nat) (kt:List (Nat × AV)) (js:List Nat) (kh:List (Nat × Option (List AV))) (n':Nat) (ot:σ → List (Nat × AV)) (oh:σ → List (Nat × Option (List AV))) (J:σ → dE) (hk:mH kl ts = kt) (hj:mV js hs = kh)
  (h1 : cC P N c1 (BN (fun s' E' => ∃ x,Le s' ⟨ot x ++ kt,oh x ++ kh,n',z0⟩ ∧ E' = J x) Q) E ⟨ts,hs,n,z0⟩)
  (h2 : ∀ x,cC P N c2 Q (J x) ⟨ot x ++ kt,oh x ++ kh,n',z0⟩) : cC P N (.seq c1 c2) Q E ⟨ts,hs,n,z0⟩ := by
 refine aN ?_
 intro C a w hN g
 refine wp_mono (h1 C a w hN g) ?_
 rintro e a' w' ⟨s',E',q1,q2⟩
 cases e with
 | normal =>
  obtain ⟨x,q3,rfl⟩ := q1
  exact ⟨s',_,IL (h2 x) q3,q2⟩
 | _ => exact ⟨s',E',q1,q2⟩
end
theorem kM {ts ts':List (Nat × AV)}{hs hs':List (Nat × Option (List AV))}{n n':Nat}{z0:Lo}(h1:lW ts ts' := by repeat' (first|exact trivial | refine And.intro rfl ?_ | fail)) (h2:kA hs hs' := by repeat' (first|exact trivial | refine And.intro (.inr rfl) ?_ | fail)) (h3:n ≤ n' := by decide):Le ⟨ts,hs,n,z0⟩ ⟨ts',hs',n',z0⟩ := Le.lit h1 h2 h3
theorem JL {xs:List SX}{m:Nat}(x:SX) (hm:m = xs.length):((flat cT xs).drop 0).take (m * 6) ++ [iv x.1.op,iv x.1.x,iv x.1.y,iv x.1.n,.v x.2.1.1,.v x.2.2.1] = flat cT (xs ++ [x]) := iA hm rfl
def oK (k : Int) (n : Nat) : List Int := (List.range n).map fun (i : Nat) => k + (i : Int)
theorem mL (k:Int) (n:Nat):(oK k n).length = n := by simp [oK]
theorem D4 (k:Int) (n:Nat):oK k (n + 1) = oK k n ++ [k + (n:Int)] := by simp [oK,List.range_succ]
mutual
def F4 : Int → Stmt → Stmt
 | k,.mk _ _ _ _ th el => .mk k (k + 1) (k + 2) (k + 3) (iC (k + 4) th) (iC (k + 4 + 4 * (aJ th : Nat)) el)
def iC : Int → List Stmt → List Stmt
 | _,[] => []
 | k,s :: l => F4 k s :: iC (k + 4 * (cM s : Nat)) l
end
theorem vD (k:Int) (s:Stmt):F4 k s = .mk k (k + 1) (k + 2) (k + 3) (iC (k + 4) s.th) (iC (k + 4 + 4 * (aJ s.th:Nat)) s.el):=by
 cases s;simp only [F4]; rfl
theorem AT:∀ (l:List Stmt) (k:Int),(iC k l).length = l.length
 | [],_ => by simp [iC]
 | s :: l,k => by simp [iC,AT l]
theorem wM:∀ (l:List Stmt) (s:Stmt) (k:Int),iC k (l ++ [s]) = iC k l ++ [F4 (k + 4 * (aJ l:Nat)) s]
 | [],s,k => by simp [iC,aJ]
 | a :: l, s, k => by
  have := wM l s (k + 4 * (cM a : Nat))
  simp only [List.cons_append,iC,aJ,this]
  rw [show k + 4 * ((cM a : Nat) : Int) + 4 * ((aJ l : Nat) : Int) = k + 4 * ((cM a + aJ l : Nat) : Int) by omega]
theorem kW {l:List Stmt}{k:Nat}(hk:k < l.length):aJ (l.take (k + 1)) = aJ (l.take k) + cM l[k]!:=by
 have e : l.take (k + 1) = l.take k ++ [l[k]!] := by rw [bG _ _ hk,List.take_succ_eq_append_getElem hk]
 rw [e,eE]; simp [aJ]
theorem rN {l:List Stmt}{j:Nat}(hj:j < l.length) (k:Int):iC k (l.take (j + 1)) = iC k (l.take j) ++ [F4 (k + 4 * (aJ (l.take j):Nat)) l[j]!]:=by
 have e : l.take (j + 1) = l.take j ++ [l[j]!] := by rw [bG _ _ hj,List.take_succ_eq_append_getElem hj]
 rw [e,wM]
end Go.AL
