/-
 A part of the proofs over this program: rules and contracts of its functions (the rules).
-/
import Derived.Test.YtgkalkgplcdnkaaGreatDoorV2A06
set_option linter.unusedVariables false
set_option linter.unusedSimpArgs false
namespace Go.AL
open Go.RowKit
theorem lP {pts:List Pnt}{f:Nat}(w:∀ i,i < pts.length → ∀ k ∈ pts[i]!.next,0 ≤ k ∧ k < pts.length) (hf:f < pts.length):∀ h,BI pts f (iG pts f h)
 | 0 => BI.nil pts f
 | h + 1 => by
  have I := lP w hf h
  rw [iG]
  split
  ·rename_i hh
   have hq := Au hh
   have hl : (jH f (iG pts f h))[h]! < pts.length := by
    rcases hq with e|e
    ·rw [e]; exact hf
    ·obtain ⟨x,hx,e⟩ := List.mem_map.1 e;rw [← e]; exact ((I.le w).2 x hx).1
   exact vX _ _ I hq (fun k hk => ⟨hl,by have := w _ hl k hk;rw [Int.toNat_of_nonneg this.1]; exact hk⟩)
  ·exact I
theorem qC (pts:List Pnt) (f h:Nat):iG pts f h <+: iG pts f (h + 1):=by
 rw [iG]; split
 ·exact fZ _ _ _
 ·exact List.prefix_refl _
theorem Cb (pts:List Pnt) (f h:Nat):∀ d,iG pts f h <+: iG pts f (h + d)
 | 0 => List.prefix_refl _
 | d + 1 => (Cb pts f h d).trans (qC pts f (h + d))
theorem p7 {pts:List Pnt}{f h:Nat}(hh:(jH f (iG pts f h)).length ≤ h):∀ d,iG pts f (h + d) = iG pts f h
 | 0 => rfl
 | d + 1 => by
  show iG pts f (h + d + 1) = _
  rw [iG,p7 hh d,if_neg (by omega)]
def k6 (pts : List Pnt) (f : Nat) : List (Nat × Nat) := iG pts f (pts.length + 1)
theorem e7 (f:Nat) (E:List (Nat × Nat)):(jH f E).length = E.length + 1 := by unfold jH;simp
theorem Br {pts:List Pnt}{f h:Nat}(w:∀ i,i < pts.length → ∀ k ∈ pts[i]!.next,0 ≤ k ∧ k < pts.length) (hf:f < pts.length) (hh:(jH f (iG pts f h)).length ≤ h):iG pts f h = k6 pts f:=by
 unfold k6
 have h1 := ((lP w hf (pts.length + 1)).le w).1
 rcases Nat.le_total h (pts.length + 1) with hl|hl
 ·obtain ⟨d, e⟩ : ∃ d, pts.length + 1 = h + d := ⟨pts.length + 1 - h, by omega⟩
  rw [e,p7 hh]
 ·obtain ⟨d, rfl⟩ : ∃ d, h = pts.length + 1 + d := ⟨h - (pts.length + 1), by omega⟩
  exact p7 (by rw [e7]; omega) d
theorem BA {pts:List Pnt}{f h:Nat}(hl:h ≤ pts.length + 1):iG pts f h <+: k6 pts f:=by
 unfold k6
 obtain ⟨d,e⟩ : ∃ d,pts.length + 1 = h + d := ⟨pts.length + 1 - h,by omega⟩
 rw [e]; exact Cb pts f h d
theorem Ak {pts:List Pnt}{f:Nat}:∀ h j,j < h → j < (jH f (iG pts f h)).length → ∀ k ∈ pts[(jH f (iG pts f h))[j]!]!.next,k.toNat ∈ (iG pts f h).map (·.1)
 | 0,j,h,_ => by omega
 | h + 1, j, hj, hl => by
  have key : ∀ i, i < (jH f (iG pts f h)).length → (jH f (iG pts f (h + 1)))[i]! = (jH f (iG pts f h))[i]! := fun i hi => by
   obtain ⟨D,e⟩ := qC pts f h
   have : jH f (iG pts f (h + 1)) = jH f (iG pts f h) ++ D.map (·.1) := by unfold jH;rw [← e]; simp
   rw [this,eG,if_pos hi]
  by_cases hh : h < (jH f (iG pts f h)).length
  ·by_cases e : j = h
   ·subst e
    intro k hk
    rw [key j hh] at hk
    rw [iG,if_pos hh]
    exact yX _ _ _ k hk
   ·intro k hk
    rw [key j (by omega)] at hk
    exact vE (qC pts f h) (Ak h j (by omega) (by omega) k hk)
  ·rw [iG, if_neg hh] at hl ⊢
   exact Ak h j (by omega) hl
theorem D3 {pts:List Pnt}{f:Nat}(w:∀ i,i < pts.length → ∀ k ∈ pts[i]!.next,0 ≤ k ∧ k < pts.length) (hf:f < pts.length) (x:Nat) (hx:x = f ∨ x ∈ (k6 pts f).map (·.1)) (k:Int) (hk:k ∈ pts[x]!.next):k.toNat ∈ (k6 pts f).map (·.1):=by
 have h1 := ((lP w hf (pts.length + 1)).le w).1
 have hm : x ∈ jH f (k6 pts f) := by unfold jH;rw [List.mem_cons]; exact hx
 obtain ⟨j,hj,e⟩ := List.getElem_of_mem hm
 have hjl : j < pts.length + 1 := by rw [e7] at hj;unfold k6 at hj;omega
 have e2 : (jH f (k6 pts f))[j]! = x := by rw [a8 _ j hj]; exact e
 refine Ak (pts.length + 1) j hjl hj k ?_
 show k ∈ pts[(jH f (k6 pts f))[j]!]!.next
 rw [e2]; exact hk
theorem BI.wy {pts:List Pnt}{f:Nat}{E:List (Nat × Nat)}(I:BI pts f E):∀ n D R e,E = D ++ e :: R → D.length ≤ n → Wy pts f e.1
 | n, D, R, e, h, hn => by
  have he := I.ed e (by rw [h]; simp)
  rcases I.pr D R e h with h2|h2
  ·rw [h2] at he;exact .base he
  ·obtain ⟨x, hx, h3⟩ := List.mem_map.1 h2
   obtain ⟨D1,D2,rfl⟩ := List.append_of_mem hx
   cases n with
   | zero => simp at hn
   | succ n =>
    have := I.wy n D1 (D2 ++ e :: R) x (by rw [h]; simp) (by simp at hn;omega)
    rw [← h3] at he
    exact .step this he
theorem gK {pts:List Pnt}{f:Nat}(w:∀ i,i < pts.length → ∀ k ∈ pts[i]!.next,0 ≤ k ∧ k < pts.length) (hf:f < pts.length) (k:Nat):0 ≤ fU (k6 pts f) k ↔ Wy pts f k:=by
 rw [dW]
 constructor
 ·intro h
  obtain ⟨x,hx,rfl⟩ := List.mem_map.1 h
  obtain ⟨D1,D2,e⟩ := List.append_of_mem hx
  exact (lP w hf (pts.length + 1)).wy _ D1 D2 x e (Nat.le_refl _)
 ·intro h
  refine Clo.sub (T := fun k => k ∈ (k6 pts f).map (·.1)) (fun k he => ?_) (fun a b ha he => ?_) k h
  ·have := D3 w hf f (.inl rfl) _ he.2;rwa [Int.toNat_natCast] at this
  ·have := D3 w hf a (.inr ha) _ he.2;rwa [Int.toNat_natCast] at this
def zO (f : Nat) : List (Nat × Nat) → Nat → List Nat
 | [],x => [x]
 | (k,a) :: R,x => if k = x then (if a = f then [f] else zO f R a) ++ [x] else zO f R x
def Ky (f : Nat) (R : List (Nat × Nat)) (x : Nat) : List Nat := if x = f then [f] else zO f R x
theorem qV (f:Nat):∀ (D R:List (Nat × Nat)) (x:Nat),x ∉ D.map (·.1) → zO f (D ++ R) x = zO f R x
 | [],R,x,_ => rfl
 | (k, a) :: D, R, x, h => by
  simp only [List.map_cons,List.mem_cons,not_or] at h
  rw [List.cons_append,zO,if_neg (fun e => h.1 e.symm)]
  exact qV f D R x h.2
theorem wJ {E:List (Nat × Nat)}(nd:(E.map (·.1)).Nodup){k a:Nat}(h:(k,a) ∈ E):fU E k = a:=by
 obtain ⟨D,R,rfl⟩ := List.append_of_mem h
 unfold fU
 rw [List.find?_append]
 have : D.find? (fun e => e.1 == k) = none := by
  rw [List.find?_eq_none]; intro e he h2
  simp only [beq_iff_eq] at h2
  rw [List.map_append,List.nodup_append] at nd
  exact nd.2.2 e.1 (List.mem_map.2 ⟨e,he,rfl⟩) k (by simp) h2
 rw [this]; simp
theorem kO {pts:List Pnt}{f:Nat}{E R:List (Nat × Nat)}{x:Nat}(I:BI pts f E) (hR:R <:+ E.reverse) (hx:x ∈ R.map (·.1)) :
  ∃ (a : Nat) (R' : List (Nat × Nat)),fU E x = (a : Int) ∧ R' <:+ E.reverse ∧ R'.length < R.length ∧ zO f R x = Ky f R' a ++ [x] ∧ (a ≠ f → a ∈ R'.map (·.1)) := by
 obtain ⟨e,he,rfl⟩ := List.mem_map.1 hx
 obtain ⟨D,R',rfl⟩ := List.append_of_mem he
 obtain ⟨k,a⟩ := e
 obtain ⟨P,hP⟩ := hR
 have hE : E = R'.reverse ++ (k, a) :: (D.reverse ++ P.reverse) := by
  have := congrArg List.reverse hP
  rw [List.reverse_reverse] at this
  rw [← this]; simp
 have hnd := I.nd
 have hk : k ∉ D.map (·.1) := by
  intro h
  rw [hE,List.map_append,List.nodup_append] at hnd
  have := hnd.2.1
  simp only [List.map_cons,List.map_append,List.map_reverse,List.nodup_cons,List.mem_append,List.mem_reverse,not_or] at this
  exact this.1.1 h
 refine ⟨a,R',wJ hnd (by rw [hE]; simp),⟨P ++ D ++ [(k,a)],by rw [← hP]; simp⟩,by simp;omega,?_,fun h => ?_⟩
 ·dsimp only
  rw [qV f D _ _ hk,zO,if_pos rfl]; rfl
 ·rcases I.pr _ _ _ hE with h2 | h2
  ·exact absurd h2 h
  ·simpa using h2
theorem vI {f:Nat}{E E':List (Nat × Nat)}{x:Nat}(h:E <+: E') (nd:(E'.map (·.1)).Nodup) (hx:x ∈ E.map (·.1)):zO f E'.reverse x = zO f E.reverse x ∧ fU E' x = fU E x:=by
 obtain ⟨D,rfl⟩ := h
 rw [List.map_append,List.nodup_append] at nd
 constructor
 ·rw [List.reverse_append]
  refine qV f _ _ _ (fun hd => ?_)
  rw [List.map_reverse,List.mem_reverse] at hd
  exact nd.2.2 x hx x hd rfl
 ·obtain ⟨e, he, rfl⟩ := List.mem_map.1 hx
  obtain ⟨k,a⟩ := e
  rw [wJ nd.1 he,wJ (by rw [List.map_append,List.nodup_append]; exact nd) (List.mem_append_left _ he)]
def dJ (pts : List Pnt) (f x : Nat) : List Nat := if 0 ≤ fU (k6 pts f) x then zO f (k6 pts f).reverse x else []
def eR (l : List Nat) : List Int := l.map (fun (k : Nat) => (k : Int))
def jG (W : Nat → List Nat) (U : Nat → Bool) : Nat → Int × List Nat
 | 0 => (-1,[])
 | i + 1 => if U i = true ∧ W i ≠ [] ∧ ((jG W U i).1 < 0 ∨ (W i).length < (jG W U i).2.length) then ((i : Int),W i) else jG W U i
theorem mY (W:Nat → List Nat) (U:Nat → Bool):∀ i,((jG W U i).1 = -1 ∧ (jG W U i).2 = []) ∨ ∃ j,j < i ∧ (jG W U i).1 = (j:Int) ∧ U j = true ∧ (jG W U i).2 = W j ∧ W j ≠ []
 | 0 => .inl ⟨rfl,rfl⟩
 | i + 1 => by
  rw [jG]; split
  ·rename_i h;exact .inr ⟨i,by omega,rfl,h.1,rfl,h.2.1⟩
  ·rcases mY W U i with h | ⟨j, h1, h2⟩
   ·exact .inl h
   ·exact .inr ⟨j,by omega,h2⟩
def dP (ts : List Int) (pts : List Pnt) (Af : List Nat) (loan i : Nat) : Bool := (List.range ts.length).any fun v => decide (aU ts pts[i]! v ≠ 0) && (cE Af i)[v]!.testBit loan
theorem xD {pts:List Pnt}{f:Nat}{E:List (Nat × Nat)}(I:BI pts f E):∀ n R x,R.length ≤ n → R <:+ E.reverse → x ∈ R.map (·.1) → ∃ T,zO f R x = f :: (T ++ [x])
 | n, R, x, hn, hR, hx => by
  obtain ⟨a,R',_,h2,h3,h4,h5⟩ := kO I hR hx
  rw [h4]
  unfold Ky
  by_cases e : a = f
  ·rw [if_pos e]; exact ⟨[],rfl⟩
  ·rw [if_neg e]
   cases n with
   | zero => omega
   | succ n =>
    obtain ⟨T,hT⟩ := xD I n R' a (by omega) h2 (h5 e)
    rw [hT]; exact ⟨T ++ [a],by simp⟩
section
variable {pts : List Pnt} {f : Nat} (w : ∀ i,i < pts.length → ∀ k ∈ pts[i]!.next,0 ≤ k ∧ k < pts.length) (hf : f < pts.length)
include w hf
theorem mD {x:Nat}(h:0 ≤ fU (k6 pts f) x):∃ T,dJ pts f x = f :: (T ++ [x]):=by
 unfold dJ
 rw [if_pos h]
 have I : BI pts f (k6 pts f) := lP w hf _
 exact xD I _ _ _ (Nat.le_refl _) (List.suffix_refl _) (by rw [List.map_reverse,List.mem_reverse]; exact dW.1 h)
theorem gB {x:Nat}:dJ pts f x ≠ [] ↔ Wy pts f x:=by
 rw [← gK w hf]
 constructor
 ·intro h
  apply Classical.byContradiction
  intro h2;unfold dJ at h;rw [if_neg h2] at h;exact h rfl
 ·intro h
  obtain ⟨T,e⟩ := mD w hf h
  rw [e]; simp
theorem Kg {E:List (Nat × Nat)}{x:Nat}(hE:E <+: k6 pts f) (hx:0 ≤ fU E x):dJ pts f x = zO f E.reverse x ∧ BI pts f E:=by
 have I : BI pts f (k6 pts f) := lP w hf _
 have hm := dW.1 hx
 have h1 := vI (f := f) hE I.nd hm
 unfold dJ
 rw [if_pos (by rw [h1.2]; exact hx)]
 refine ⟨h1.1,?_⟩
 obtain ⟨D,e⟩ := hE
 have nd := I.nd
 rw [← e,List.map_append,List.nodup_append] at nd
 refine ⟨nd.1,fun x hx => I.ed x (by rw [← e]; exact List.mem_append_left _ hx),fun D' R x h => I.pr D' (R ++ D) x (by rw [← e,h]; simp)⟩
end
section
variable {P : Program} {C : Ctx} {ι : Pl} {F : Nat → Prop} {T : Nat → Option AV} {H : Nat → Option (List AV)} {a : Act} {w : World} {o : Oper}
theorem sH (t tn ty e:TypeId) (i:TypeInfo) (z:Value) (k kn:IntKind) (ht:P.underlying t = some (.slice e)) (htn:P.underlying tn = some (.int kn)) (hi:P.info? e = some i) (hz:i.zero = some z)
  (n : Nat) (h0 : 0 < n) (hs : 0 < i.size) (h63 : n ≤ 9223372036854775807) (hb : n * i.bytes ≤ 140737488355328) :
  (Builtin.append_ #[t, tn] ty #[.slice none 0 0, .int k (n : Int)]).run P w =
   .ok (.slice (some ⟨w.heap.size,0,none⟩) n (grownCap w n 0 e)) (w.drew.alloc (.cells (Builtin.zeroCells z.cells n ++ Builtin.zeroCells z.cells (grownCap w n 0 e - n)) e)) := by
 have h1 : n ≠ 0 := by omega
 have h2 : IntKind.i64.wrap (n : Int) = n := pZ (by omega)
 have h3 : ¬ (9223372036854775807 < (n : Int)) := by omega
 have hfit := growslice_fits (need := n) (old := 0) (bytes := i.bytes) (by omega) hb
 have h4 : ¬ (281474976710656 < Builtin.nextslicecap n 0 * i.bytes) := by omega
 have h5 : ¬ (281474976710656 < (n : Int) * (i.bytes : Int)) := by rw [← Int.natCast_mul]; omega
 have h6 : ¬ ((n : Int) < 0) := by omega
 have h7 : ¬ (n * i.size = 0) := Nat.mul_ne_zero h1 (by omega)
 have h8 : ∀ w : World,(Builtin.firstCells i.size 0 (.slice none 0 0)).run P w = .ok #[] w := fun w => by simp [Builtin.firstCells,loadCells,loadCellsFrom]
 simp [Builtin.append_,bG ht,bG htn,sizeOf,typeInfo,zeroValue,hi,hz,asInt,asIntOf,h2,h1,h6,h7,h3,h4,h5,Question.forced,h8,newRow,grownCap]
theorem rS (z:Array Value):∀ n,(Builtin.zeroCells z n).toList = (List.replicate n z.toList).flatten := fun n => by
 have := oB z n (n * z.size) rfl
 simpa [Builtin.zeroCells,madeCells] using this
theorem Fy (g:TG C ι T H a w) (gh:HG C ι F H w){t tn el:TypeId}{e by' id n:Nat}{x y:Operand}{zs:List Value}{k k':IntKind}(ho:o.op = .call ⟨.builtin .append,#[x,y],#[t,tn]⟩)
  (hx : ev T x = some (.v (.slice none 0 0))) (hy : ev T y = some (.v (.int k (n : Int)))) (ht : kC P t = some el) (htn : P.underlying tn = some (.int k')) (he : eH P el = some e) (hb : xS P el = some by') (hz : mS P el = some zs) (hze : zs.length = e)
  (he0 : 0 < e) (h0 : 0 < n) (hsm : n * by' ≤ 140737488355328) (hmx : n ≤ 9223372036854775807) (hf : F id) :
  Ef P C ι (fun j => F j ∧ j ≠ id) H a w o (.own id 0 n e) (cY H id (some ((List.replicate n (zs.map .v)).flatten))) := by
 obtain ⟨i,z,h1,h2,h3,h4⟩ := nZ hz
 have hzsz : z.cells.size = e := by rw [← hze,← h3]; simp
 have hx' := bF g hx
 have hy' := bF g hy
 simp only [Rd] at hx' hy'
 have hr := sH (P := P) (w := w) t tn o.type el i z k k' (iU ht) htn h1 h2 n h0 (by rw [uC he h1]; exact he0) hmx (by rw [Ax hb h1]; exact hsm)
 obtain ⟨g1,c1⟩ := nU gh
 have harr : (Builtin.zeroCells z.cells n).toList = (List.replicate n zs).flatten := by rw [rS,h3]
 obtain ⟨g3, c4⟩ := g1.alloc (id := id) hf (arr := Builtin.zeroCells z.cells n ++ Builtin.zeroCells z.cells (grownCap w n 0 el - n)) el (cs := (List.replicate n (zs.map AV.v)).flatten) (l := (List.replicate n zs).flatten) (rest := (Builtin.zeroCells z.cells (grownCap w n 0 el - n)).toList)
  (by rw [Array.toList_append, harr]) (by
   have : (List.replicate n (zs.map AV.v)).flatten = ((List.replicate n zs).flatten).map AV.v := by rw [List.map_flatten,List.map_replicate]
   rw [this]; exact rR (nA zs h4 n))
 refine ⟨_,.slice (some ⟨w.heap.size,0,none⟩) n (grownCap w n 0 el),_,_,?_,.inl ⟨rfl,?_⟩,g3,c1.trans c4⟩
 ·simp [execOp,ho,resolve,invoke,builtin,hx',hy',hr]
 ·simp only [Rd]
  have hge := grownCap_ge w n 0 el
  refine .inr ⟨w.heap.size,0,_,by simp,by simp,hge,?_⟩
  have hh : (w.drew.alloc (.cells (Builtin.zeroCells z.cells n ++ Builtin.zeroCells z.cells (grownCap w n 0 el - n)) el)).heap[w.heap.size]? = some (.cells (Builtin.zeroCells z.cells n ++ Builtin.zeroCells z.cells (grownCap w n 0 el - n)) el (0,0)) := heap_alloc_new w.drew _
  rw [r9,hh]
  simp only [Array.size_append,size_zeroCells,hzsz,← Nat.add_mul]
  rw [show n + (grownCap w n 0 el - n) = grownCap w n 0 el from by omega]
  omega
end
section
variable {P : Program} {N : Nat} {Q : Exit → AS → Prop} {all : Array Oper} {rest : List Oper} {ts : List (Nat × AV)} {hs : List (Nat × Option (List AV))} {n : Nat} {z0 : Lo} {md : Md}
variable {d : Nat} {ty : TypeId} {pos : String} {af : Array Edge}
theorem FU {t tn el:TypeId}{e by' m:Nat}{x y:Operand}{zs:List Value}{k k':IntKind}{z:Int}[ht:SlT P t el] [he:SzT P el e] [hb:ByT P el by'] [hz:ZrT P el zs] (htn:P.underlying tn = some (.int k'))
  (hx : ev (lk ts) x = some (.v (.slice none 0 0))) (hy : ev (lk ts) y = some (.v (.int k z))) (hzm : z = (m : Int)) (hze : zs.length = e) (he0 : Nat.blt 0 e = true) (h0 : 0 < m) (hsm : m * by' ≤ 140737488355328) (hmx : m ≤ 9223372036854775807)
  (hM : Nat.blt n aS = true) (hN : Nat.blt d N = true) (kk : RW P N all Q .txt rest ⟨(d,.own n 0 m e) :: ts,(n,some ((List.replicate m (zs.map .v)).flatten)) :: hs,n + 1,z0⟩) :
  RW P N all Q .txt (⟨some d,.call ⟨.builtin .append,#[x,y],#[t,tn]⟩,ty,pos,af,none⟩ :: rest) ⟨ts,hs,n,z0⟩ := by
 subst hzm
 exact KR (rs := rO x ++ rO y) rfl rfl (cK hN) hM (fun C ι F T H a w ag hF g gh => Fy g gh rfl (ag.l.ev.trans hx) (ag.r.ev.trans hy) ht.pf htn he.pf hb.pf hz.pf hze (cK he0) h0 hsm hmx hF) kk
theorem Dz {t el:TypeId}{x:Operand}[ht:SlT P t el] (hx:ev (lk ts) x = some (.v (.slice none 0 0))) (hN:Nat.blt d N = true) (kk:RW P N all Q .txt rest ⟨(d,.v (.int .i64 0)) :: ts,hs,n,z0⟩) :
  RW P N all Q .txt (⟨some d,.call ⟨.builtin .cap,#[x],#[t]⟩,ty,pos,af,none⟩ :: rest) ⟨ts,hs,n,z0⟩ := by
 refine cP (out := .v (.int .i64 0)) (rs := rO x) rfl rfl (cK hN) (fun C ι F T H a w ag g gh => ?_) kk
 have hx' := bF g (ag.ev.trans hx)
 simp only [Rd] at hx'
 exact ⟨.int .i64 0,by simp [execOp,resolve,invoke,builtin,hx',Builtin.cap_,bG (iU ht.pf),goInt],by simp only [Rd]⟩
theorem qY {t el:TypeId}{x y:Operand}{i o m e:Nat}{k:IntKind}{z:Int}{h:Nat}[ht:SlT P t el] [he:SzT P el e] (hx:ev (lk ts) x = some (.own i o m e)) (hy:ev (lk ts) y = some (.v (.int k z))) (hz:z = (h:Int)) (hb:h ≤ m) (hN:Nat.blt d N = true)
  {md' : Md} [hmd : MdA md (rO x ++ (rB none ++ rB (some y))) [.inl d] md'] (kk : RW P N all Q md' rest ⟨(d,.own i o h e) :: ts,hs,n,z0⟩) : RW P N all Q md (⟨some d,.slice t x none (some y) none,ty,pos,af,none⟩ :: rest) ⟨ts,hs,n,z0⟩ := by
 subst hz
 exact pP (m := m) (l := 0) (h := h) hx rfl rfl (by simp [fD,hy]) (by simp [I5,hb]) hN (md' := md') (hmd := hmd) kk
theorem y3 {t el e:TypeId}{x:Operand}{hi:Option Operand}[ht:SlT P t el] [he:SzT P el e] (hx:ev (lk ts) x = some (.v (.slice none 0 0))) (hh:fD (lk ts) hi 0 = some 0) (hN:Nat.blt d N = true)
  (kk : RW P N all Q .txt rest ⟨(d,.v (.slice none 0 0)) :: ts,hs,n,z0⟩) : RW P N all Q .txt (⟨some d,.slice t x none hi none,ty,pos,af,none⟩ :: rest) ⟨ts,hs,n,z0⟩ := by
 refine cP (out := .v (.slice none 0 0)) (rs := rO x ++ rB hi) rfl rfl (cK hN) (fun C ι F T H a w ag g gh => ?_) kk
 have h1 := bF g (ag.l.ev.trans hx)
 simp only [Rd] at h1
 have hu := iU ht.pf
 have hr := fN (P := P) (w := w) (is := true) (cap := 0) g (lo := none) (hi := hi) (l := 0) (h := 0) (n := 0) rfl (ag.r.bnd.trans hh) (Nat.le_refl _) (Nat.le_refl _) (Nat.le_refl _)
 rw [show Option.map a.eval (none : Option Operand) = none from rfl] at hr
 refine ⟨.slice none 0 0,?_,by simp only [Rd]⟩
 simp [execOp,h1,Instr.sliceAt,bG hu,Instr.slice,hr,dS he.pf]
end
theorem Le.cut {ts:List (Nat × AV)}{hs:List (Nat × Option (List AV))}{n:Nat}{z0:Lo}{i:Nat}{cs:List AV}(k:Nat) (hi:aR hs i = some cs) :
  Le ⟨ts,hs,n,z0⟩ ⟨ts,(i,some (cs.take k)) :: hs,n,z0⟩ := by
 rintro C a w ⟨h0,ι,g,gh⟩
 have hσ : ∀ id c, aR ((i, some (cs.take k)) :: hs) id = some c → ∃ c0, aR hs id = some c0 ∧ (c = c0 ∨ c = c0.take k) := by
  intro id c h
  rw [bX] at h
  split at h
  ·rename_i e;subst e;cases h;exact ⟨cs,hi,.inr rfl⟩
  ·exact ⟨c,h,.inl rfl⟩
 have car : Carry w (aH C.X ι (aR hs)) ι w (aH C.X ι (aR ((i, some (cs.take k)) :: hs))) ι := by
  refine ⟨fun b o' x h1 h2 => ⟨?_,h2⟩,fun _ _ h => h,fun _ => Nat.le_refl _⟩
  rintro (h | ⟨id,c,β,q1,q2⟩)
  ·exact h1 (.inl h)
  ·obtain ⟨c0, r, _⟩ := hσ id c q1
   exact h1 (.inr ⟨id,c0,β,r,q2⟩)
 refine ⟨h0,ι,⟨g.df,g.sz,fun t av ht => ?_⟩,⟨fun id c h => ?_,fun id id' c c' b β β' q1 q2 q3 q4 => ?_,gh.fr,gh.ex,gh.fresh⟩⟩
 ·obtain ⟨y, hy, hr⟩ := g.tm t av ht
  exact ⟨y,hy,Rd.carry car _ _ hr⟩
 ·obtain ⟨c0, r, e⟩ := hσ id c h
  rcases gh.obj id c0 r with ⟨h1,h2⟩ | ⟨b',β',arr',e',h1,h2,h3,h4,h5,h6⟩
  ·refine .inl ⟨h1, ?_⟩
   rcases e with e|e
   ·rw [e,h2]
   ·rw [e,h2]; simp
  ·refine .inr ⟨b', β', arr', e', h1, h2, ?_, ?_, h5, h6⟩
   ·rcases e with e | e
    ·rw [e]; exact h3
    ·rw [e,List.length_take]; omega
   ·have h7 := RdC.carryB car _ _ _ (fun o x hx => hx) h4
    rcases e with e|e
    ·rw [e]; exact h7
    ·rw [e]; exact RdC.take k h7
 ·obtain ⟨_, r1, _⟩ := hσ id c q1
  obtain ⟨_,r2,_⟩ := hσ id' c' q2
  exact gh.sep _ _ _ _ _ _ _ r1 r2 q3 q4
def LA (l : List Int) : List AV := [sl cI l]
instance : FlT LA 1:=⟨fun _ => rfl⟩
instance : FE LA (fun l => [sl cI l]):=⟨fun _ => rfl⟩
instance (l : List Int) : Pur (LA l):=⟨by show (AV.pur (sl cI l) && true) = true;rw [Bool.and_true]; exact a7 cI l⟩
section
variable {P : Program} {N : Nat} {Q : Exit → AS → Prop} {all : Array Oper} {rest : List Oper} {ts : List (Nat × AV)} {hs : List (Nat × Option (List AV))} {n : Nat} {z0 : Lo}
variable {d : Nat} {ty : TypeId} {pos : String} {af : Array Edge}
theorem oV {fn:Go.Fn}{cs:Array Operand}{i:Nat}{cc c:List AV}(t:Nat) (hx:lk ts t = some (.optr i 0)) (hH:aR hs i = some cc) (hc:evL (lk ((t,.iptr cc) :: ts)) cs.toList = some c) (hN:Nat.blt d N = true)
  (kk : RW P N all Q .txt rest ⟨(d,.clos fn [] c) :: (t,.iptr cc) :: ts,(i,none) :: hs,n,z0⟩) : RW P N all Q .txt (⟨some d,.makeFunc fn #[] cs,ty,pos,af,none⟩ :: rest) ⟨ts,hs,n,z0⟩ :=
 dR (kY (f := []) (c := c) rfl hc hN (md' := .txt) kk) (Le.frzP hx hH)
end
theorem Jz {P:Program}{C:Ctx}{ι:Pl}{F':Nat → Prop}{H:Nat → Option (List AV)}{a:Act}{w:World}{o:Oper}{id m e:Nat}{cs:List AV}
  (h : Ef P C ι F' H a w o (.own id 0 m e) (cY H id (some cs))) : Ef P C ι F' H a w o (.imm m cs) (cY H id none) := by
 obtain ⟨n,y,ι',w',h1,h2,h3,h4⟩ := h
 obtain ⟨g, c⟩ := h3.less (F' := F') (H' := cY H id none) (fun j c hj => by
  by_cases e1 : j = id
  ·subst e1;simp at hj
  ·rw [aV _ _ e1] at hj ⊢; exact hj) (fun _ h => h)
 refine ⟨n,y,ι',w',h1,?_,g,h4.trans c⟩
 rcases h2 with ⟨e1,hr⟩ | ⟨_,_,e3⟩
 ·refine .inl ⟨e1, ?_⟩
  have hi : cY H id (some cs) id = some cs := upd_same _ _ _
  simp only [Rd] at hr ⊢
  rcases hr with ⟨_,h2,a',h3'⟩ | ⟨b,β,c',q1,q2,q3,q4⟩
  ·subst h2;exact ⟨a',0,h3',.inl rfl⟩
  ·refine ⟨_, c', q2, ?_⟩
   rcases Nat.eq_zero_or_pos m with h5|h5
   ·exact .inl h5
   ·refine .inr ⟨b, β + 0, q3, rfl, ?_⟩
    rcases h3.obj id cs hi with ⟨r1,r2⟩ | ⟨b',β',arr,e',r1,r2,r3,r4,r5,r6⟩
    ·rw [q1] at r1;cases r1
    ·rw [q1] at r1; cases r1
     refine .inr ⟨?_,RdC.carryB c _ _ _ (fun o x hx => hx) r4⟩
     rintro (h | ⟨id',cs',β',s1,s2⟩)
     ·exact r5 h
     ·by_cases e1 : id' = id
      ·subst e1;simp at s1
      ·rw [aV _ _ e1] at s1
       exact e1 (h3.sep _ _ _ _ _ _ _ (by rw [aV _ _ e1]; exact s1) hi s2 q1)
 ·cases e3
section
variable {P : Program} {N : Nat} {Q : Exit → AS → Prop} {all : Array Oper} {rest : List Oper} {ts : List (Nat × AV)} {hs : List (Nat × Option (List AV))} {n : Nat} {z0 : Lo} {md : Md}
variable {d : Nat} {ty : TypeId} {pos : String} {af : Array Edge}
theorem rP {t el len e:Nat}{parts:Array (Nat × Operand)}{zs:List Value}{l:List (Nat × AV)}{cs:List AV}[ht:SlT P t el] [he:SzT P el e] [hz:ZrT P el zs] (hze:zs.length = e) (hsm:Nat.ble (len * e) 16777216 = true)
  (hl : evs (lk ts) parts.toList = some l) (hfl : gE (fun i => some (i * e,e)) ((List.replicate len (zs.map .v)).flatten) l = some cs) (hM : Nat.blt n aS = true) (hN : Nat.blt d N = true) {md' : Md} [hmd : MdA md (Gv parts.toList) [.inr n,.inl d] md']
  (kk : RW P N all Q md' rest ⟨(d,.imm len cs) :: ts,(n,none) :: hs,n + 1,z0⟩) :
  RW P N all Q md (⟨some d,.buildSlice t len parts,ty,pos,af,none⟩ :: rest) ⟨ts,hs,n,z0⟩ :=
 BH (rs := Gv parts.toList) (ws := [(n, none)]) (n' := n + 1) (out := .imm len cs) rfl (fun x h => by cases h; exact cK hN) (Nat.le_succ n) (.inr (cK hM))
  (fun C ι F T H a w ag hF g gh => A2 (Jz (lQ g gh rfl ht.pf he.pf hz.pf hze (by simpa using hsm) (ag.evs.trans hl) hfl (hF n (Nat.le_refl n) (Nat.lt_succ_self n))))) (by rw [show md.add (Gv parts.toList) ([(n,(none : Option (List AV)))].map (fun p => .inr p.1) ++ wD (some d)) = md' from hmd.pf]; exact kk)
end
theorem mW {xs ys:List Int}{m:Nat}(hm:m = xs.length):((flat cI xs).drop 0).take (m * 1) ++ flat cI ys = flat cI (xs ++ ys):=by
 subst hm
 have h : (flat cI xs).length = xs.length * 1 := aM cI xs
 rw [List.drop_zero,List.take_of_length_le (by omega)]
 simp [flat]
theorem Eg {hs:List (Nat × Option (List AV))}{id m e':Nat}{u:List Int}(h:aR hs id = some (flat cI u)) (hm:m = u.length):sCells (aR hs) 1 (nP (.own id 0 m e')) = some (m,flat cI u):=by
 subst hm
 have hl : (flat cI u).length = u.length * 1 := aM cI u
 show ((aR hs id).bind fun cs => if u.length * 1 ≤ (cs.drop 0).length then some (u.length,(cs.drop 0).take (u.length * 1)) else none) = _
 rw [h]
 show (if u.length * 1 ≤ ((flat cI u).drop 0).length then some (u.length,((flat cI u).drop 0).take (u.length * 1)) else none) = _
 rw [List.drop_zero,if_pos (by omega),List.take_of_length_le (by omega)]
theorem qS {f:Nat}{E:List (Nat × Nat)}{h:Nat}(hh:h < (jH f E).length):eO f E h = ((jH f E)[h]!:Int) :: eO f E (h + 1):=by
 unfold eO
 rw [List.drop_eq_getElem_cons hh,List.map_cons,a8 _ _ hh]
theorem tR {f:Nat}{E:List (Nat × Nat)}{h:Nat}:eO f E h = [] ↔ (jH f E).length ≤ h:=by
 unfold eO
 rw [List.map_eq_nil_iff,List.drop_eq_nil_iff]
theorem lD (f:Nat) (E:List (Nat × Nat)) (h:Nat):(eO f E h).length = E.length + 1 - h:=by
 unfold eO;rw [List.length_map,List.length_drop,e7]
theorem tD {f:Nat}{E:List (Nat × Nat)}{h k a:Nat}(hh:h ≤ (jH f E).length):eO f (E ++ [(k,a)]) h = eO f E h ++ [(k:Int)]:=by
 unfold eO
 have : jH f (E ++ [(k,a)]) = jH f E ++ [k] := by unfold jH;simp
 rw [this,List.drop_append_of_le_length hh]; simp
theorem vW {E:List (Nat × Nat)}{a k:Nat}(h:fU E k < 0):DX E a k = E ++ [(k,a)] := by unfold DX;rw [if_pos h]
theorem Bz {E:List (Nat × Nat)}{a k:Nat}(h:0 ≤ fU E k):DX E a k = E := by unfold DX;rw [if_neg (by omega)]
structure CS (pts : List Pnt) (f t : Nat) (E : List (Nat × Nat)) (x : Nat) (R : List (Nat × Nat)) (v : List Int) : Prop where
 suf : R <:+ E.reverse
 mem : x ≠ f → x ∈ R.map (·.1)
 eq : eR (dJ pts f t) = eR (Ky f R x) ++ v
 len : v.length + R.length ≤ E.length
 xl : x < pts.length
section
variable {pts : List Pnt} {f t : Nat} (w : ∀ i,i < pts.length → ∀ k ∈ pts[i]!.next,0 ≤ k ∧ k < pts.length) (hf : f < pts.length)
include w hf
theorem CS.start {E:List (Nat × Nat)}(hE:E <+: k6 pts f) (ht:0 ≤ fU E t):BI pts f E ∧ ∃ (a:Nat) (R:List (Nat × Nat)),fU E t = (a:Int) ∧ CS pts f t E a R [(t:Int)]:=by
 obtain ⟨e,I⟩ := Kg w hf hE ht
 refine ⟨I,?_⟩
 obtain ⟨a,R,h1,h2,h3,h4,h5⟩ := kO I (List.suffix_refl _) (by rw [List.map_reverse,List.mem_reverse]; exact dW.1 ht : t ∈ E.reverse.map (·.1))
 refine ⟨a,R,h1,h2,h5,?_,by rw [List.length_reverse] at h3;simp;omega,?_⟩
 ·rw [e,h4]; simp [eR]
 ·by_cases h : a = f
  ·rw [h]; exact hf
  ·obtain ⟨x, hx, rfl⟩ := List.mem_map.1 (h5 h)
   have : x ∈ E := by rw [← List.mem_reverse]; exact h2.subset hx
   exact ((I.le w).2 x this).1
theorem CS.step {E R:List (Nat × Nat)}{x:Nat}{v:List Int}(I:BI pts f E) (c:CS pts f t E x R v) (hx:x ≠ f):∃ (a:Nat) (R':List (Nat × Nat)),fU E x = (a:Int) ∧ CS pts f t E a R' ((x:Int) :: v) ∧ R'.length < R.length:=by
 obtain ⟨a,R',h1,h2,h3,h4,h5⟩ := kO I c.suf (c.mem hx)
 refine ⟨a,R',h1,⟨h2,h5,?_,by have := c.len;simp;omega,?_⟩,h3⟩
 ·rw [c.eq]; unfold Ky at h4 ⊢; rw [if_neg hx,h4]; simp [eR]
 ·by_cases h : a = f
  ·rw [h]; exact hf
  ·obtain ⟨x, hx, rfl⟩ := List.mem_map.1 (h5 h)
   have : x ∈ E := by rw [← List.mem_reverse]; exact h2.subset hx
   exact ((I.le w).2 x this).1
end
theorem CS.fin {pts:List Pnt}{f t:Nat}{E R:List (Nat × Nat)}{v:List Int}(c:CS pts f t E f R v):eR (dJ pts f t) = (f:Int) :: v:=by
 rw [c.eq]; unfold Ky;rw [if_pos rfl]; rfl
theorem b0 (l:List Nat):(eR l).length = l.length := by unfold eR;simp
theorem vU {W:Nat → List Nat}{U:Nat → Bool}{i:Nat}(h:U i = false ∨ W i = []):jG W U (i + 1) = jG W U i:=by
 rw [jG,if_neg]
 rintro ⟨h1,h2,_⟩
 rcases h with h|h
 ·rw [h] at h1;cases h1
 ·exact h2 h
theorem pG {W:Nat → List Nat}{U:Nat → Bool}{i:Nat}(h1:U i = true) (h2:W i ≠ []) (h3:(jG W U i).1 < 0 ∨ (W i).length < (jG W U i).2.length):jG W U (i + 1) = ((i:Int),W i):=by
 rw [jG,if_pos ⟨h1,h2,h3⟩]
theorem Bv {W:Nat → List Nat}{U:Nat → Bool}{i:Nat}(h3:0 ≤ (jG W U i).1) (h4:(jG W U i).2.length ≤ (W i).length):jG W U (i + 1) = jG W U i:=by
 rw [jG,if_neg]
 rintro ⟨_,_,h5⟩
 omega
theorem BL {pts:List Pnt}{f x:Nat}(w:∀ i,i < pts.length → ∀ k ∈ pts[i]!.next,0 ≤ k ∧ k < pts.length) (hf:f < pts.length) (h:0 ≤ fU (k6 pts f) x):dJ pts f x ≠ [] := (gB w hf).2 ((gK w hf x).1 h)
theorem BG {pts:List Pnt}{f x:Nat}(h:fU (k6 pts f) x < 0):dJ pts f x = [] := by unfold dJ;rw [if_neg (by omega)]
theorem BO {pts:List Pnt}{f:Nat}{E:List (Nat × Nat)}(I:BI pts f E):∀ n R x,R.length ≤ n → R <:+ E.reverse → x ∈ R.map (·.1) → (zO f R x).length ≤ R.length + 1
 | n, R, x, hn, hR, hx => by
  obtain ⟨a,R',_,h2,h3,h4,h5⟩ := kO I hR hx
  rw [h4]
  unfold Ky
  by_cases e : a = f
  ·rw [if_pos e]; simp;omega
  ·rw [if_neg e]
   cases n with
   | zero => omega
   | succ n =>
    have := BO I n R' a (by omega) h2 (h5 e)
    rw [List.length_append,List.length_singleton]; omega
theorem fO {pts:List Pnt}{f x:Nat}(w:∀ i,i < pts.length → ∀ k ∈ pts[i]!.next,0 ≤ k ∧ k < pts.length) (hf:f < pts.length):(dJ pts f x).length ≤ pts.length + 1:=by
 unfold dJ
 split
 ·rename_i h
  have I : BI pts f (k6 pts f) := lP w hf _
  have := BO I _ _ _ (Nat.le_refl _) (List.suffix_refl _) (by rw [List.map_reverse,List.mem_reverse]; exact dW.1 h : x ∈ (k6 pts f).reverse.map (·.1))
  have h2 := (I.le w).1
  rw [List.length_reverse] at this;omega
 ·simp
theorem F9 (ts:List Int) (pts:List Pnt) (Af:List Nat) (loan i:Nat) (hn:ts.length ≤ 6):((aX (wS ts pts[i]! [1,2,3])).any fun v => (cE Af i)[v.toNat]!.testBit loan) = dP ts pts Af loan i:=by
 rw [Bool.eq_iff_iff,List.any_eq_true]
 unfold dP
 rw [List.any_eq_true]
 constructor
 ·rintro ⟨z, hz, h2⟩
  obtain ⟨v,h3,h4,rfl⟩ := cF.1 hz
  rw [cA] at h4
  simp only [Bool.and_eq_true,decide_eq_true_eq] at h4
  refine ⟨v,List.mem_range.2 h4.1,?_⟩
  rw [Int.toNat_natCast] at h2
  rw [h2,Bool.and_true,decide_eq_true_eq]
  intro h0;rw [h0] at h4;simp at h4
 ·rintro ⟨v, hv, h2⟩
  simp only [Bool.and_eq_true,decide_eq_true_eq,List.mem_range] at h2 hv
  have := qL ts pts[i]! v
  refine ⟨(v : Int),cF.2 ⟨v,by omega,?_,rfl⟩,by rw [Int.toNat_natCast]; exact h2.2⟩
  rw [cA]
  simp only [Bool.and_eq_true,decide_eq_true_eq,List.mem_cons,List.not_mem_nil,or_false]
  omega
structure RI (pts : List Pnt) (a : Nat) (F : List Bool) (T : List Int) : Prop where
 len : F.length = pts.length
 src : ∀ k ∈ pts[a]!.next,F[k.toNat]! = true ∨ k ∈ T
 cl : ∀ i,i < pts.length → F[i]! = true → ∀ k ∈ pts[i]!.next,F[k.toNat]! = true ∨ k ∈ T
 snd : ∀ i,i < pts.length → F[i]! = true → Wy pts a i
 tw : ∀ k ∈ T,0 ≤ k ∧ k < pts.length ∧ Wy pts a k.toNat
def Be (F : List Bool) (T : List Int) : Nat := 3 * F.countP (fun b => !b) + T.length
theorem RI.start {pts:List Pnt}{a:Nat}(w:∀ i,i < pts.length → ∀ k ∈ pts[i]!.next,0 ≤ k ∧ k < pts.length) (ha:a < pts.length):RI pts a (List.replicate pts.length false) pts[a]!.next:=by
 have h0 : ∀ i, (List.replicate pts.length false)[i]! = true → False := fun i h => by
  by_cases hi : i < pts.length
  ·rw [a8 _ i (by simpa using hi)] at h;simp at h
  ·rw [getElem!_neg _ i (by simpa using hi)] at h;cases h
 exact ⟨by simp, fun k hk => .inr hk, fun i hi h => (h0 i h).elim, fun i hi h => (h0 i h).elim, fun k hk =>
  ⟨(w a ha k hk).1,(w a ha k hk).2,.base ⟨ha,by rw [Int.toNat_of_nonneg (w a ha k hk).1]; exact hk⟩⟩⟩
theorem RI.vis {pts:List Pnt}{a:Nat}{F:List Bool}{T T':List Int}{k:Int}(I:RI pts a F T) (h1:∀ x ∈ T,x = k ∨ x ∈ T') (h2:∀ x ∈ T',x ∈ T) (hF:F[k.toNat]! = true):RI pts a F T':=by
 have key : ∀ x, F[x.toNat]! = true ∨ x ∈ T → F[x.toNat]! = true ∨ x ∈ T' := fun x h => by
  rcases h with h|h
  ·exact .inl h
  ·rcases h1 x h with rfl | h
   ·exact .inl hF
   ·exact .inr h
 exact ⟨I.len,fun x hx => key x (I.src x hx),fun i hi h x hx => key x (I.cl i hi h x hx),I.snd,fun x hx => I.tw x (h2 x hx)⟩
theorem RI.new {pts:List Pnt}{a:Nat}(w:∀ i,i < pts.length → ∀ k ∈ pts[i]!.next,0 ≤ k ∧ k < pts.length){F:List Bool}{T T':List Int}{k:Int}(I:RI pts a F T) (hk:k ∈ T) (h1:∀ x ∈ T,x = k ∨ x ∈ T') (h2:∀ x ∈ pts[k.toNat]!.next,x ∈ T') (h3:∀ x ∈ T',x ∈ T ∨ x ∈ pts[k.toNat]!.next) :
  RI pts a (F.set k.toNat true) T' := by
 have hkl := I.tw k hk
 have hl := I.len
 have mono : ∀ i : Nat, F[i]! = true → (F.set k.toNat true)[i]! = true := fun i h => by
  rw [aQ]; split
  ·rfl
  ·exact h
 have hkk : (F.set k.toNat true)[k.toNat]! = true := by rw [aQ,if_pos ⟨rfl,by omega⟩]
 have key : ∀ x, F[x.toNat]! = true ∨ x ∈ T → (F.set k.toNat true)[x.toNat]! = true ∨ x ∈ T' := fun x h => by
  rcases h with h|h
  ·exact .inl (mono _ h)
  ·rcases h1 x h with rfl | h
   ·exact .inl hkk
   ·exact .inr h
 have hold : ∀ i, (F.set k.toNat true)[i]! = true → i = k.toNat ∨ F[i]! = true := fun i h => by
  rw [aQ] at h;split at h
  ·rename_i e;exact .inl e.1.symm
  ·exact .inr h
 refine ⟨by rw [List.length_set]; exact hl,fun x hx => key x (I.src x hx),fun i hi h x hx => ?_,fun i hi h => ?_,fun x hx => ?_⟩
 ·rcases hold i h with rfl | h
  ·exact .inr (h2 x hx)
  ·exact key x (I.cl i hi h x hx)
 ·rcases hold i h with rfl | h
  ·exact hkl.2.2
  ·exact I.snd i hi h
 ·rcases h3 x hx with h | h
  ·exact I.tw x h
  ·have := w _ (by omega) x h
   exact ⟨this.1,this.2,.step hkl.2.2 ⟨by omega,by rw [Int.toNat_of_nonneg this.1]; exact h⟩⟩
theorem RI.fin {pts:List Pnt}{a:Nat}{F F0:List Bool}(I:RI pts a F []) (hF:GoodR pts a F0) (w:∀ i,i < pts.length → ∀ k ∈ pts[i]!.next,0 ≤ k ∧ k < pts.length):F = F0:=by
 refine bB (by rw [I.len,hF.l]) fun i hi => ?_
 rw [I.len] at hi
 rw [Bool.eq_iff_iff,hF.g i hi]
 refine ⟨I.snd i hi,fun h => ?_⟩
 have := Clo.sub (T := fun k => F[k]! = true) (fun k he => ?_) (fun x y hx he => ?_) i h
 ·exact this
 ·rcases I.src _ he.2 with h | h
  ·simpa using h
  ·cases h
 ·rcases I.cl x he.1 hx _ he.2 with h | h
  ·simpa using h
  ·cases h
theorem Ia {F:List Bool}{k:Nat}(hk:k < F.length) (h:F[k]! = false) (T:List Int):Be (F.set k true) T + 3 = Be F T:=by
 unfold Be
 have h1 : F[k] = false := by rw [← a8 F k hk]; exact h
 have h2 : 0 < F.countP (fun b => !b) := List.countP_pos_iff.2 ⟨F[k],List.getElem_mem hk,by rw [h1]; rfl⟩
 rw [List.countP_set hk,h1]; simp;omega
theorem HV (F:List Bool) (T:List Int):T.length ≤ Be F T := by unfold Be;omega
theorem IM (F:List Bool) (T S:List Int):Be F (T ++ S) = Be F T + S.length := by unfold Be;rw [List.length_append]; omega
theorem Dj {n:Nat}{T:List Int}(hn:n ≤ 61) (hT:T.length ≤ 2):Be (List.replicate n false) T ≤ 200:=by
 unfold Be
 have : (List.replicate n false).countP (fun b => !b) ≤ n := Nat.le_trans List.countP_le_length (by simp)
 omega
theorem F2 (E:List (Nat × Nat)) (a:Nat) (A B:List Int):gY E a (A ++ B) = gY (gY E a A) a B := by unfold gY;rw [List.foldl_append]
theorem C8 (E:List (Nat × Nat)) (a:Nat) (L:List Int) (k:Nat):gY E a (L.take k) <+: gY E a L:=by
 have : gY E a L = gY (gY E a (L.take k)) a (L.drop k) := by rw [← F2,List.take_append_drop]
 rw [this]; exact fZ _ _ _
theorem GJ {pts:List Pnt}{f h a:Nat}(hlt:h < (jH f (iG pts f h)).length) (ha:a = (jH f (iG pts f h))[h]!):iG pts f (h + 1) = gY (iG pts f h) a pts[a]!.next:=by
 rw [iG,if_pos hlt,← ha]
theorem Hp (a b:List Nat):eR (a ++ b) = eR a ++ eR b := by unfold eR;simp
theorem D4 {T:List Int}{m:Nat}:(flat cI T).take m = flat cI (T.take m):=by
 have := eN cI (e := 1) T m;rw [Nat.mul_one] at this;exact this
theorem Ge {T:List Int}{m:Nat}(hm:m = T.length) (h:0 < m):T[m - 1]! ∈ T ∧ ∀ x ∈ T,x = T[m - 1]! ∨ x ∈ T.take (m - 1):=by
 subst hm
 refine ⟨aZ _ _ (by omega),fun x hx => ?_⟩
 have e : T = T.take (T.length - 1) ++ [T[T.length - 1]!] := by
  rw [← bI T _ (by omega),show T.length - 1 + 1 = T.length by omega,List.take_length]
 rw [e] at hx
 rcases List.mem_append.1 hx with h|h
 ·exact .inr h
 ·exact .inl (List.mem_singleton.1 h)
theorem Ha {W:Nat → List Nat}{U:Nat → Bool}{m:Nat}(h:∀ j,(W j).length ≤ m) (i:Nat):(jG W U i).2.length ≤ m:=by
 rcases mY W U i with ⟨_,e⟩ | ⟨j,_,_,_,e,_⟩
 ·rw [e]; exact Nat.zero_le _
 ·rw [e]; exact h j
theorem GG {pts:List Pnt}{f:Nat}(w:∀ i,i < pts.length → ∀ k ∈ pts[i]!.next,0 ≤ k ∧ k < pts.length) (hf:f < pts.length){U:Nat → Bool}{i:Nat}{bl:List Int}(hbl:bl = eR (jG (dJ pts f) U i).2) (h0:bl.length ≠ 0) :
  bl[((bl.length : Int) - 1).toNat]! = (jG (dJ pts f) U i).1 ∧ 0 ≤ (jG (dJ pts f) U i).1 := by
 rcases mY (dJ pts f) U i with ⟨_,e⟩ | ⟨j,_,e1,_,e,hn⟩
 ·rw [hbl,e] at h0;exact absurd rfl h0
 ·refine ⟨?_, by omega⟩
  obtain ⟨T,hT⟩ := mD w hf ((gK w hf j).2 ((gB w hf).1 hn))
  rw [e1]
  have eb : bl = eR (f :: T) ++ [(j : Int)] := by rw [hbl,e,hT,← List.cons_append,Hp]; rfl
  have el : ((bl.length : Int) - 1).toNat = (eR (f :: T)).length := by rw [eb]; simp
  rw [el,eb,eG,if_neg (by omega),Nat.sub_self]; rfl
theorem Hk {W:Nat → List Nat}{U:Nat → Bool}{i:Nat}:((jG W U i).1 < 0 ∧ (jG W U i).2.length = 0) ∨ (0 ≤ (jG W U i).1 ∧ 0 < (jG W U i).2.length):=by
 rcases mY W U i with ⟨e1,e⟩ | ⟨j,_,e1,_,e,hn⟩
 ·rw [e,e1]; exact .inl ⟨by decide,rfl⟩
 ·rw [e,e1]; exact .inr ⟨by omega,List.length_pos_iff.2 hn⟩
theorem Rch.wy {pts:List Pnt}(r:Rch pts):∀ n t,t ≤ n → 0 < t → t < pts.length → Wy pts 0 t
 | n, t, hn, h0, ht => by
  obtain ⟨j,hj,e⟩ := r t h0 ht
  by_cases hz : j = 0
  ·subst hz;exact .base e
  ·cases n with
   | zero => omega
   | succ n => exact .step (r.wy n j (by omega) (by omega) e.1) e
def sF (pts : List Pnt) (t : Nat) : List Nat := if t = 0 then [0] else dJ pts 0 t
theorem yK {pts:List Pnt}(w:∀ i,i < pts.length → ∀ k ∈ pts[i]!.next,0 ≤ k ∧ k < pts.length) (r:Rch pts){t:Nat}(ht:t < pts.length):∃ T,sF pts t = 0 :: T:=by
 unfold sF
 by_cases h : t = 0
 ·rw [if_pos h]; exact ⟨[],rfl⟩
 ·rw [if_neg h]
  obtain ⟨T,e⟩ := mD w (by omega) ((gK w (by omega) t).2 (r.wy t t (Nat.le_refl _) (by omega) ht))
  exact ⟨_,e⟩
theorem mK {pts:List Pnt}(w:∀ i,i < pts.length → ∀ k ∈ pts[i]!.next,0 ≤ k ∧ k < pts.length) (h0:0 < pts.length) (t:Nat):(sF pts t).length ≤ pts.length + 1:=by
 unfold sF;split
 ·simp
 ·exact fO w h0
end Go.AL
namespace Go.AL
def o6 (a b : Iss) : Bool := a.point == b.point && (a.kind == b.kind && a.with_ == b.with_)
theorem jU (a b:Iss):o6 a b = true ↔ a = b:=by
 unfold o6
 simp only [Bool.and_eq_true,beq_iff_eq]
 constructor
 ·rintro ⟨h1,h2,h3⟩; cases a;cases b;simp only at h1 h2 h3;rw [h1,h2,h3]
 ·rintro rfl;exact ⟨rfl,rfl,rfl⟩
structure Tg where
 id : Int
 uq : Bool
 deriving Inhabited,DecidableEq
structure Cl where
 val : Int
 alive : Bool
 next : Int
 stk : List Tg
 deriving Inhabited,DecidableEq
structure Pt where
 cell : Int
 tag : Int
 deriving Inhabited,DecidableEq
structure Sl where
 set : Bool
 num : Int
 ptr : Pt
 deriving Inhabited,DecidableEq
def JO (t : Tg) : List AV := [iv t.id,bv t.uq]
def KL (c : Cl) : List AV := [iv c.val,bv c.alive,iv c.next,sl JO c.stk]
def L0 (s : Sl) : List AV := [bv s.set,iv s.num,iv s.ptr.cell,iv s.ptr.tag]
instance : FlT JO 2:=⟨fun _ => rfl⟩
instance : FlT KL 4:=⟨fun _ => rfl⟩
instance : FlT L0 4:=⟨fun _ => rfl⟩
instance : FE JO (fun t => [iv t.id,bv t.uq]):=⟨fun _ => rfl⟩
instance : FE KL (fun c => [iv c.val,bv c.alive,iv c.next,sl JO c.stk]):=⟨fun _ => rfl⟩
instance : FE L0 (fun s => [bv s.set,iv s.num,iv s.ptr.cell,iv s.ptr.tag]):=⟨fun _ => rfl⟩
instance (t : Tg) : Pur (JO t):=⟨rfl⟩
instance (c : Cl) : Pur (KL c):=⟨by show (true && (true && (true && ((sl JO c.stk).pur && true)))) = true;rw [a7]; rfl⟩
instance (s : Sl) : Pur (L0 s):=⟨rfl⟩
def K0 (c : Cl) : Prop := c.stk.length = 200 ∨ c.next = 1000
instance (c : Cl) : Decidable (K0 c) := by unfold K0;infer_instance
structure Co where
 val : Int
 alive : Bool
 next : Int
 av : AV
instance : Inhabited Co:=⟨⟨0,false,0,.imm 0 []⟩⟩
def I7 (c : Co) : List AV := [iv c.val,bv c.alive,iv c.next,c.av]
instance : FlT I7 4:=⟨fun _ => rfl⟩
instance : FE I7 (fun c => [iv c.val,bv c.alive,iv c.next,c.av]):=⟨fun _ => rfl⟩
def IT (c : Cl) : Co := ⟨c.val,c.alive,c.next,sl JO c.stk⟩
def Lu (m : List Cl) (j : Nat) (X : AV) : List Co := (m.map IT).set j { IT m[j]! with av := X }
theorem nO (m:List Cl):flat I7 (m.map IT) = flat KL m:=by
 unfold flat;rw [List.flatMap_map]; rfl
theorem xP {m:List Cl}{j:Nat}{X:AV}(h:j < m.length):flat I7 (Lu m j X) = flat KL (m.take j) ++ ([iv m[j]!.val,bv m[j]!.alive,iv m[j]!.next] ++ X :: flat KL (m.drop (j + 1))):=by
 unfold Lu
 rw [List.set_eq_take_append_cons_drop,if_pos (by rw [List.length_map]; exact h),← bY,← List.map_take,nO,← List.map_drop]
 congr 1
 show I7 _ ++ flat I7 _ = _
 rw [nO]; rfl
theorem vR {ρ:Nat → Option Nat}{m:List Cl}{j k i i':Nat}(hr:ρ i = some i'):RnL ρ (flat I7 (Lu m j (.own i 0 k 2))) (flat I7 (Lu m j (.own i' 0 k 2))):=by
 by_cases h : j < m.length
 ·rw [xP h, xP h]
  exact RnL.app (RnL.purI inferInstance) (RnL.app (RnL.purI inferInstance) (RnL.cons (RnV.own hr) (RnL.purI inferInstance)))
 ·have e : ∀ X, Lu m j X = m.map IT := fun X => List.set_eq_of_length_le (by rw [List.length_map]; omega)
  rw [e,e,nO]
  exact RnL.purI inferInstance
end Go.AL
namespace Go.AL
def Chn (pts : List Pnt) : List Nat → Prop
 | [] => True
 | [_] => True
 | a :: b :: l => bZ pts a b ∧ Chn pts (b :: l)
theorem Chn.snoc {pts:List Pnt}{a x:Nat}(e:bZ pts a x):∀ T:List Nat,Chn pts (T ++ [a]) → Chn pts (T ++ [a] ++ [x])
 | [],_ => ⟨e,trivial⟩
 | [b],h => ⟨h.1,e,trivial⟩
 | b :: c :: T,h => ⟨h.1,Chn.snoc e (c :: T) h.2⟩
theorem Chn.join {pts:List Pnt}{x:Nat}{B:List Nat}(h2:Chn pts (x :: B)):∀ A:List Nat,Chn pts (A ++ [x]) → Chn pts (A ++ [x] ++ B)
 | [],_ => h2
 | [b],h => ⟨h.1,h2⟩
 | b :: c :: A,h => ⟨h.1,Chn.join h2 (c :: A) h.2⟩
theorem Chn.at {pts:List Pnt}:∀ (W:List Nat) (i:Nat),Chn pts W → i + 1 < W.length → bZ pts W[i]! W[i + 1]!
 | [],_,_,h => by simp at h
 | [_],i,_,h => by simp at h
 | a :: b :: l,0,hc,h => hc.1
 | a :: b :: l, i + 1, hc, h => by
  have := Chn.at (b :: l) i hc.2 (by simpa using h)
  exact this
theorem Hs {E:List (Nat × Nat)}{k a:Nat}(h:fU E k = (a:Int)):(k,a) ∈ E:=by
 unfold fU at h
 cases q : E.find? (fun e => e.1 == k) with
 | none => rw [q] at h;dsimp only at h;omega
 | some e =>
  rw [q] at h;dsimp only at h
  have h1 := List.find?_some q
  have h2 := List.mem_of_find?_eq_some q
  simp only [beq_iff_eq] at h1
  have e2 : e = (k,a) := by rw [← h1,show a = e.2 by omega]
  rw [← e2]; exact h2
theorem Bp {pts:List Pnt}{f:Nat}{E:List (Nat × Nat)}(I:BI pts f E):∀ n R x,R.length ≤ n → R <:+ E.reverse → x ∈ R.map (·.1) → Chn pts (zO f R x) ∧ ∃ T,zO f R x = T ++ [x]
 | n, R, x, hn, hR, hx => by
  obtain ⟨a,R',h1,h2,h3,h4,h5⟩ := kO I hR hx
  have he := I.ed _ (Hs h1)
  rw [h4]
  refine ⟨?_,_,rfl⟩
  unfold Ky
  by_cases e : a = f
  ·rw [if_pos e]; subst e;exact ⟨he,trivial⟩
  ·rw [if_neg e]
   cases n with
   | zero => omega
   | succ n =>
    obtain ⟨hc,T,hT⟩ := Bp I n R' a (by omega) h2 (h5 e)
    rw [hT] at hc ⊢
    exact Chn.snoc he T hc
section
variable {pts : List Pnt} (w : ∀ i,i < pts.length → ∀ k ∈ pts[i]!.next,0 ≤ k ∧ k < pts.length)
include w
theorem oY {f x:Nat}(hf:f < pts.length) (h:dJ pts f x ≠ []):Chn pts (dJ pts f x) ∧ ∃ T,dJ pts f x = f :: (T ++ [x]):=by
 have h0 : 0 ≤ fU (k6 pts f) x := (gK w hf x).2 ((gB w hf).1 h)
 refine ⟨?_,mD w hf h0⟩
 unfold dJ
 rw [if_pos h0]
 exact (Bp (lP w hf _) _ _ _ (Nat.le_refl _) (List.suffix_refl _) (by rw [List.map_reverse,List.mem_reverse]; exact dW.1 h0)).1
theorem oZ (r:Rch pts){t:Nat}(ht:t < pts.length):Chn pts (sF pts t) ∧ ∃ A,sF pts t = A ++ [t]:=by
 unfold sF
 by_cases h : t = 0
 ·rw [if_pos h]; subst h;exact ⟨trivial,[],rfl⟩
 ·rw [if_neg h]
  obtain ⟨h1,T,e⟩ := oY w (f := 0) (x := t) (by omega) ((gB w (by omega)).2 (r.wy t t (Nat.le_refl _) (by omega) ht))
  exact ⟨h1,0 :: T,by rw [e]; rfl⟩
theorem EB (r:Rch pts){l a u:Nat}(ha:a < pts.length) (hl:l < pts.length) (h2:dJ pts l a ≠ []) (h3:dJ pts a u ≠ []):Chn pts (sF pts l ++ (dJ pts l a).drop 1 ++ (dJ pts a u).drop 1):=by
 obtain ⟨c1,A,e1⟩ := oZ w r hl
 obtain ⟨c2,B,e2⟩ := oY w hl h2
 obtain ⟨c3,C,e3⟩ := oY w ha h3
 rw [e1] at c1 ⊢
 rw [e2] at c2 ⊢
 rw [e3] at c3 ⊢
 have h4 := Chn.join c2 A c1
 have h5 : Chn pts ((A ++ [l] ++ B) ++ [a]) := by simpa using h4
 have h6 := Chn.join c3 _ h5
 simpa using h6
end
theorem KZ {ts:List Int}{pts:List Pnt}{a:Nat × Nat × Nat}(h:zN ts pts a):Wy pts a.2.2 a.1:=by
 induction h with
 | base h => exact .base h.1
 | step _ r ih => rw [r.1]; exact .step ih r.2.1
theorem BM {pts:List Pnt}{a b c:Nat}(e:bZ pts a b) (h:Wy pts b c):Wy pts a c:=by
 induction h with
 | base h => exact .step (.base e) h
 | step _ r ih => exact .step ih r
theorem J1 {ts:List Int}{pts:List Pnt}{a:Nat × Nat}(h:Nd ts pts a):∀ l,zN ts pts (a.1,a.2,l) → ∃ i,i < pts.length ∧ (i = a.1 ∨ Wy pts a.1 i) ∧ aU ts pts[i]! a.2 ≠ 0 ∧ zN ts pts (i,a.2,l):=by
 induction h with
 | @base a h => intro l hf;exact ⟨a.1,h.1,.inl rfl,h.2.2,hf⟩
 | @step a b h0 r ih =>
  intro l hf
  obtain ⟨e,he,hs⟩ := r
  by_cases hu : aU ts pts[b.1]! b.2 = 0
  ·have hf2 : zN ts pts (a.1, a.2, l) := .step hf ⟨rfl, he, .inl ⟨hs, e.symm, by show aU ts pts[b.1]! b.2 ≠ 2; omega⟩⟩
   obtain ⟨i,h1,h2,h3,h4⟩ := ih l hf2
   refine ⟨i,h1,.inr ?_,by rw [e]; exact h3,by rw [e]; exact h4⟩
   rcases h2 with rfl|h2
   ·exact .base he
   ·exact BM he h2
  ·exact ⟨b.1,he.1,.inl rfl,hu,hf⟩
theorem Gy {W:Nat → List Nat}{U:Nat → Bool}:∀ n,(∃ u,u < n ∧ U u = true ∧ W u ≠ []) → 0 ≤ (jG W U n).1
 | 0,⟨u,h,_⟩ => by omega
 | n + 1, ⟨u, h, h1, h2⟩ => by
  rw [jG]
  split
  ·dsimp only;omega
  ·rename_i hc
   rcases Nat.lt_or_ge u n with hu|hu
   ·exact Gy n ⟨u,hu,h1,h2⟩
   ·have e : u = n := by omega
    subst e
    rcases Int.lt_or_le (jG W U u).1 0 with h0|h0
    ·exact absurd ⟨h1,h2,.inl h0⟩ hc
    ·exact h0
theorem Hw {ts:List Int}{pts:List Pnt}(w:WG ts pts) (f:Flows ts pts){a l:Nat}{k:Int}(hx:(⟨(a:Int),k,(l:Int)⟩:Iss) ∈ f.iss) (hk:k ≠ 1):Wy pts l a ∧ ∃ u,u < pts.length ∧ Wy pts a u ∧ dP ts pts f.Af l u = true:=by
 have hpl := w.pl
 have htl := w.tl
 have b := f.bnd w
 unfold Flows.iss mJ at hx
 obtain ⟨i,hi,hx⟩ := List.mem_flatMap.1 hx
 rw [List.mem_range] at hi
 unfold Dm at hx
 rcases List.mem_append.1 hx with hx|hx
 ·obtain ⟨v, _, e⟩ := List.mem_map.1 hx
  injection e with e1 e2 e3
  exact absurd e2.symm hk
 ·obtain ⟨z, hz, e⟩ := List.mem_map.1 hx
  injection e with e1 e2 e3
  obtain rfl : i = a := by omega
  obtain ⟨l',hl1,hl2,hl3⟩ := cF.1 hz
  obtain rfl : l' = l := by omega
  unfold GK at hl2
  have hlt : tU ts pts[i]! f.Al[i]! (cE f.Af i) &&& f.Ap[i]! < 2 ^ pts.length := Nat.and_lt_two_pow _ (b.bP i)
  rw [iN _ _ _ ⟨Nat.lt_of_lt_of_le hlt (Nat.pow_le_pow_right (by decide) (by omega))⟩] at hl2
  rcases hl2 with hq | ⟨c,_,hq,_⟩
  ·simp at hq
  rw [Nat.testBit_and,Bool.and_eq_true] at hq
  have hq1 := hq.1
  unfold tU at hq1
  rw [gA] at hq1
  rcases hq1 with hq1 | ⟨v,hv,hq1⟩
  ·simp at hq1
  obtain ⟨v',hv1,hv2,rfl⟩ := cF.1 hv
  rw [cD,Bool.and_eq_true,Bool.not_eq_true',Nat.testBit_or,Bool.or_eq_false_iff] at hv2
  obtain ⟨hL,hW,hS⟩ := hv2
  have hLv := (f.gl.2 i hi v').1 hL
  obtain ⟨k',he,hnd⟩ := hLv
  have hvl := oM w hnd
  dsimp only at hvl
  rw [Int.toNat_natCast] at hq1
  have hfr : zN ts pts (i, v', l') := by
   rw [dO f.gf.1 hi (by omega)] at hq1
   exact (f.gf.2 i v' hi (by omega) l').1 hq1
  have hu2 : aU ts pts[i]! v' ≠ 2 := fun e2 => by
   rw [cA,e2] at hW
   simp at hW;omega
  have hset : aP pts[i]! ≠ (v' : Int) := fun e2 => by
   unfold gC at hS
   rw [e2] at hS
   simp at hS
  have hfr2 : zN ts pts (k',v',l') := .step hfr ⟨rfl,he,.inl ⟨hset,rfl,hu2⟩⟩
  obtain ⟨u,h1,h2,h3,h4⟩ := J1 hnd l' hfr2
  refine ⟨KZ hfr,u,h1,?_,?_⟩
  ·rcases h2 with rfl | h2
   ·exact .base he
   ·exact BM he h2
  ·unfold dP
   rw [List.any_eq_true]
   refine ⟨v',List.mem_range.2 hvl,?_⟩
   rw [Bool.and_eq_true,decide_eq_true_eq]
   refine ⟨h3,?_⟩
   rw [dO f.gf.1 h1 (by omega)]
   exact (f.gf.2 u v' h1 (by omega) l').2 h4
def EL (x : Pnt) : Prop := x.op = 9 ∨ x.op = 10 ∨ x.op = 11 ∨ (1 ≤ x.op ∧ x.op ≤ 8 ∧ 0 ≤ x.x ∧ x.x ≤ 5 ∧ 0 ≤ x.y ∧ x.y ≤ 5 ∧ 0 ≤ x.n ∧ x.n ≤ 9)
theorem FO {ts:List Int}{s:Stmt}(h:dF ts s = true):(0 ≤ s.n ∧ s.n ≤ 9):=by
 unfold dF at h
 dsimp only at h
 repeat' split at h
 all_goals (first|(simp only [decide_eq_true_eq] at h;omega)|(cases h;done)|omega)
mutual
theorem J2 {ts:List Int}(ht:bC ts = true):∀ (s:Stmt) (d b:Nat),rF ts d s = true → ∀ x ∈ wY b s,EL x
 | .mk op x y n th el, d, b, h => by
  simp only [rF] at h
  split at h
  ·rename_i hop
   simp only [Bool.and_eq_true] at h
   have hs := tI ht h.2
   have hn := FO h.2
   simp only [Stmt.op,Stmt.x,Stmt.y,Stmt.n] at hs hn
   simp only [wY,hop.1,hop.2,if_false,List.mem_singleton]
   rintro z rfl
   exact .inr (.inr (.inr ⟨hs.1,hs.2.1,hs.2.2.1,hs.2.2.2.1,hs.2.2.2.2.1,hs.2.2.2.2.2.1,hn.1,hn.2⟩))
  ·rename_i hop
   cases d with
   | zero => cases h
   | succ d =>
    simp only [Bool.and_eq_true,decide_eq_true_eq] at h
    obtain ⟨⟨⟨_,_⟩,h1⟩,h2⟩ := h
    by_cases h9 : op = 9
    ·subst h9
     simp only [wY,if_true,List.mem_append,List.mem_singleton]
     rintro z (((rfl|hz)|rfl)|hz)
     ·exact .inl rfl
     ·exact qD ht th d (b + 1) h1 z hz
     ·exact .inr (.inl rfl)
     ·exact qD ht el d _ h2 z hz
    ·have h10 : op = 10 := by omega
     subst h10
     simp only [wY,if_true,show ((10 : Int) = 9) = False by simp,if_false,List.mem_append,List.mem_singleton]
     rintro z ((rfl|hz)|rfl)
     ·exact .inr (.inl rfl)
     ·exact qD ht th d (b + 1) h1 z hz
     ·exact .inr (.inl rfl)
theorem qD {ts:List Int}(ht:bC ts = true):∀ (l:List Stmt) (d b:Nat),okL ts d l = true → ∀ x ∈ fF b l,EL x
 | [],d,b,h => by simp [fF]
 | s :: l, d, b, h => by
  simp only [okL,Bool.and_eq_true] at h
  simp only [fF,List.mem_append]
  rintro x (hx|hx)
  ·exact J2 ht s d b h.1 x hx
  ·exact qD ht l d (b + nG s) h.2 x hx
end
theorem Ae {p:Prg}(h:bH p = true){i:Nat}(hi:i < (aB p).length):EL (aB p)[i]!:=by
 unfold bH at h
 simp only [Bool.and_eq_true,decide_eq_true_eq] at h
 obtain ⟨⟨ht,hl⟩,hc⟩ := h
 have hm := aZ _ i hi
 unfold aB at hm
 rw [List.mem_append,List.mem_singleton] at hm
 rcases hm with hm|hm
 ·exact qD ht p.body 4 0 hl _ hm
 ·unfold aB;rw [hm]; exact .inr (.inr (.inl rfl))
def dY (n : Int) : ByteArray := if n ≤ 9 then sB n else lT [48 + n / 10] ++ (lT [48 + n % 10] ++ .empty)
theorem fH (n:Int):(dY n).size ≤ 2:=by
 unfold dY;split
 ·rw [dL]; omega
 ·simp [lT,ByteArray.size_append]
def nK (x : Pnt) : ByteArray := if x.op = 11 then ⟨#[101,110,100]⟩ else if x.op = 9 then ⟨#[105,102]⟩ else if x.op = 10 then (if x.n = 1 then ⟨#[103,111]⟩ else ⟨#[108,111,111,112]⟩) else fV (.mk x.op x.x x.y x.n [] [])
theorem iY (x:Pnt):(nK x).size ≤ 11:=by
 have := l9 (.mk x.op x.x x.y x.n [] [])
 simp only [bV,aN] at this
 unfold nK
 repeat' split
 all_goals (first|(simp only [e8,List.length_cons,List.length_nil]; omega)|omega)
def mF (pts : List Pnt) (x : Iss) : ByteArray :=
 if x.kind = 1 then ((((dY x.point ++ ⟨#[32]⟩) ++ nK pts[x.point.toNat]!) ++ ⟨#[58,32]⟩) ++ ⟨#[110,111,32,118,97,108,117,101,32,111,102,32]⟩) ++ eI x.with_
 else ((((((dY x.point ++ ⟨#[32]⟩) ++ nK pts[x.point.toNat]!) ++ ⟨#[58,32]⟩) ++ ⟨#[108,111,97,110,32,111,102,32]⟩) ++ dY x.with_) ++ ⟨#[32]⟩) ++ nK pts[x.with_.toNat]!
theorem I8 (s:ByteArray):∀ (k i:Nat) (r:List UInt8),s.size - i = k → (ByteArray.toList.loop s i r).length = k + r.length
 | 0,i,r,h => by rw [ByteArray.toList.loop,if_neg (by omega),List.length_reverse]; omega
 | k + 1, i, r, h => by
  rw [ByteArray.toList.loop,if_pos (by omega),I8 s k (i + 1) _ (by omega),List.length_cons]; omega
theorem Bq (s:ByteArray):s.toList.length = s.size:=by
 unfold ByteArray.toList;rw [I8 s s.size 0 [] (by omega)]; simp
theorem Iz (pts:List Pnt) (x:Iss):((mF pts x).toList == (⟨#[]⟩:ByteArray).toList) = false:=by
 have h : 0 < (mF pts x).size := by
  unfold mF;split <;> simp only [ByteArray.size_append,e8,List.length_cons,List.length_nil] <;> omega
 rw [← Bq] at h
 have e : (⟨#[]⟩ : ByteArray).toList = [] := by
  apply List.eq_nil_of_length_eq_zero;rw [Bq]; rfl
 rw [e]
 cases hq : (mF pts x).toList with
 | nil => rw [hq] at h;simp at h
 | cons a l => rfl
end Go.AL
