/-
 A part of the proofs over this program: rules and contracts of its functions (the rules).
-/
import Derived.Test.YteidfaaldcedpaaGreatDoorU1A06
import Derived.MapKept
import Derived.Orders
set_option linter.unusedVariables false
set_option linter.unusedSimpArgs false
namespace Go.AL
theorem oM {pts:List Pnt}{f:Nat}(w:∀ i,i < pts.length → ∀ k ∈ pts[i]!.next,0 ≤ k ∧ k < pts.length) (hf:f < pts.length):∀ h,BI pts f (kS pts f h)
 | 0 => BI.nil pts f
 | h + 1 => by
  have I := oM w hf h
  rw [kS]
  split
  ·rename_i hh
   have hq := Di hh
   have hl : (k9 f (kS pts f h))[h]! < pts.length := by
    rcases hq with e|e
    ·rw [e]; exact hf
    ·obtain ⟨x,hx,e⟩ := List.mem_map.1 e;rw [← e]; exact ((I.le w).2 x hx).1
   exact zI _ _ I hq (fun k hk => ⟨hl,by have := w _ hl k hk;rw [Int.toNat_of_nonneg this.1]; exact hk⟩)
  ·exact I
theorem vS (pts:List Pnt) (f h:Nat):kS pts f h <+: kS pts f (h + 1):=by
 rw [kS]; split
 ·exact iU _ _ _
 ·exact List.prefix_refl _
theorem E4 (pts:List Pnt) (f h:Nat):∀ d,kS pts f h <+: kS pts f (h + d)
 | 0 => List.prefix_refl _
 | d + 1 => (E4 pts f h d).trans (vS pts f (h + d))
theorem tY {pts:List Pnt}{f h:Nat}(hh:(k9 f (kS pts f h)).length ≤ h):∀ d,kS pts f (h + d) = kS pts f h
 | 0 => rfl
 | d + 1 => by
  show kS pts f (h + d + 1) = _
  rw [kS,tY hh d,if_neg (by omega)]
def mK (pts : List Pnt) (f : Nat) : List (Nat × Nat) := kS pts f (pts.length + 1)
theorem gS (f:Nat) (E:List (Nat × Nat)):(k9 f E).length = E.length + 1 := by unfold k9;simp
theorem Fz {pts:List Pnt}{f h:Nat}(w:∀ i,i < pts.length → ∀ k ∈ pts[i]!.next,0 ≤ k ∧ k < pts.length) (hf:f < pts.length) (hh:(k9 f (kS pts f h)).length ≤ h):kS pts f h = mK pts f:=by
 unfold mK
 have h1 := ((oM w hf (pts.length + 1)).le w).1
 rcases Nat.le_total h (pts.length + 1) with hl|hl
 ·obtain ⟨d, e⟩ : ∃ d, pts.length + 1 = h + d := ⟨pts.length + 1 - h, by omega⟩
  rw [e,tY hh]
 ·obtain ⟨d, rfl⟩ : ∃ d, h = pts.length + 1 + d := ⟨h - (pts.length + 1), by omega⟩
  exact tY (by rw [gS]; omega) d
theorem Fu {pts:List Pnt}{f h:Nat}(hl:h ≤ pts.length + 1):kS pts f h <+: mK pts f:=by
 unfold mK
 obtain ⟨d,e⟩ : ∃ d,pts.length + 1 = h + d := ⟨pts.length + 1 - h,by omega⟩
 rw [e]; exact E4 pts f h d
theorem Dk {pts:List Pnt}{f:Nat}:∀ h j,j < h → j < (k9 f (kS pts f h)).length → ∀ k ∈ pts[(k9 f (kS pts f h))[j]!]!.next,k.toNat ∈ (kS pts f h).map (·.1)
 | 0,j,h,_ => by omega
 | h + 1, j, hj, hl => by
  have key : ∀ i, i < (k9 f (kS pts f h)).length → (k9 f (kS pts f (h + 1)))[i]! = (k9 f (kS pts f h))[i]! := fun i hi => by
   obtain ⟨D,e⟩ := vS pts f h
   have : k9 f (kS pts f (h + 1)) = k9 f (kS pts f h) ++ D.map (·.1) := by unfold k9;rw [← e]; simp
   rw [this,fN,if_pos hi]
  by_cases hh : h < (k9 f (kS pts f h)).length
  ·by_cases e : j = h
   ·subst e
    intro k hk
    rw [key j hh] at hk
    rw [kS,if_pos hh]
    exact Ca _ _ _ k hk
   ·intro k hk
    rw [key j (by omega)] at hk
    exact AT (vS pts f h) (Dk h j (by omega) (by omega) k hk)
  ·rw [kS, if_neg hh] at hl ⊢
   exact Dk h j (by omega) hl
theorem J1 {pts:List Pnt}{f:Nat}(w:∀ i,i < pts.length → ∀ k ∈ pts[i]!.next,0 ≤ k ∧ k < pts.length) (hf:f < pts.length) (x:Nat) (hx:x = f ∨ x ∈ (mK pts f).map (·.1)) (k:Int) (hk:k ∈ pts[x]!.next):k.toNat ∈ (mK pts f).map (·.1):=by
 have h1 := ((oM w hf (pts.length + 1)).le w).1
 have hm : x ∈ k9 f (mK pts f) := by unfold k9;rw [List.mem_cons]; exact hx
 obtain ⟨j,hj,e⟩ := List.getElem_of_mem hm
 have hjl : j < pts.length + 1 := by rw [gS] at hj;unfold mK at hj;omega
 have e2 : (k9 f (mK pts f))[j]! = x := by rw [aY _ j hj]; exact e
 refine Dk (pts.length + 1) j hjl hj k ?_
 show k ∈ pts[(k9 f (mK pts f))[j]!]!.next
 rw [e2]; exact hk
theorem BI.wy {pts:List Pnt}{f:Nat}{E:List (Nat × Nat)}(I:BI pts f E):∀ n D R e,E = D ++ e :: R → D.length ≤ n → Wy pts f e.1
 | n, D, R, e, h, hn => by
  have he := I.ed e (by rw [h]; simp)
  rcases I.pr D R e h with h2|h2
  ·rw [h2] at he;exact .base he
  ·obtain ⟨x, hx, h3⟩ := List.mem_map.1 h2
   obtain ⟨D1,D2,rfl⟩ := List.append_of_mem hx
   cases n with
   | zero => simp at hn
   | succ n =>
    have := I.wy n D1 (D2 ++ e :: R) x (by rw [h]; simp) (by simp at hn;omega)
    rw [← h3] at he
    exact .step this he
theorem gO {pts:List Pnt}{f:Nat}(w:∀ i,i < pts.length → ∀ k ∈ pts[i]!.next,0 ≤ k ∧ k < pts.length) (hf:f < pts.length) (k:Nat):0 ≤ iR (mK pts f) k ↔ Wy pts f k:=by
 rw [fB]
 constructor
 ·intro h
  obtain ⟨x,hx,rfl⟩ := List.mem_map.1 h
  obtain ⟨D1,D2,e⟩ := List.append_of_mem hx
  exact (oM w hf (pts.length + 1)).wy _ D1 D2 x e (Nat.le_refl _)
 ·intro h
  refine Clo.sub (T := fun k => k ∈ (mK pts f).map (·.1)) (fun k he => ?_) (fun a b ha he => ?_) k h
  ·have := J1 w hf f (.inl rfl) _ he.2;rwa [Int.toNat_natCast] at this
  ·have := J1 w hf a (.inr ha) _ he.2;rwa [Int.toNat_natCast] at this
def C3 (f : Nat) : List (Nat × Nat) → Nat → List Nat
 | [],x => [x]
 | (k,a) :: R,x => if k = x then (if a = f then [f] else C3 f R a) ++ [x] else C3 f R x
def Oi (f : Nat) (R : List (Nat × Nat)) (x : Nat) : List Nat := if x = f then [f] else C3 f R x
theorem vT (f:Nat):∀ (D R:List (Nat × Nat)) (x:Nat),x ∉ D.map (·.1) → C3 f (D ++ R) x = C3 f R x
 | [],R,x,_ => rfl
 | (k, a) :: D, R, x, h => by
  simp only [List.map_cons,List.mem_cons,not_or] at h
  rw [List.cons_append,C3,if_neg (fun e => h.1 e.symm)]
  exact vT f D R x h.2
theorem Av {E:List (Nat × Nat)}(nd:(E.map (·.1)).Nodup){k a:Nat}(h:(k,a) ∈ E):iR E k = a:=by
 obtain ⟨D,R,rfl⟩ := List.append_of_mem h
 unfold iR
 rw [List.find?_append]
 have : D.find? (fun e => e.1 == k) = none := by
  rw [List.find?_eq_none]; intro e he h2
  simp only [beq_iff_eq] at h2
  rw [List.map_append,List.nodup_append] at nd
  exact nd.2.2 e.1 (List.mem_map.2 ⟨e,he,rfl⟩) k (by simp) h2
 rw [this]; simp
theorem mU {pts:List Pnt}{f:Nat}{E R:List (Nat × Nat)}{x:Nat}(I:BI pts f E) (hR:R <:+ E.reverse) (hx:x ∈ R.map (·.1)) :
  ∃ (a : Nat) (R' : List (Nat × Nat)),iR E x = (a : Int) ∧ R' <:+ E.reverse ∧ R'.length < R.length ∧ C3 f R x = Oi f R' a ++ [x] ∧ (a ≠ f → a ∈ R'.map (·.1)) := by
 obtain ⟨e,he,rfl⟩ := List.mem_map.1 hx
 obtain ⟨D,R',rfl⟩ := List.append_of_mem he
 obtain ⟨k,a⟩ := e
 obtain ⟨P,hP⟩ := hR
 have hE : E = R'.reverse ++ (k, a) :: (D.reverse ++ P.reverse) := by
  have := congrArg List.reverse hP
  rw [List.reverse_reverse] at this
  rw [← this]; simp
 have hnd := I.nd
 have hk : k ∉ D.map (·.1) := by
  intro h
  rw [hE,List.map_append,List.nodup_append] at hnd
  have := hnd.2.1
  simp only [List.map_cons,List.map_append,List.map_reverse,List.nodup_cons,List.mem_append,List.mem_reverse,not_or] at this
  exact this.1.1 h
 refine ⟨a,R',Av hnd (by rw [hE]; simp),⟨P ++ D ++ [(k,a)],by rw [← hP]; simp⟩,by simp;omega,?_,fun h => ?_⟩
 ·dsimp only
  rw [vT f D _ _ hk,C3,if_pos rfl]; rfl
 ·rcases I.pr _ _ _ hE with h2 | h2
  ·exact absurd h2 h
  ·simpa using h2
theorem A1 {f:Nat}{E E':List (Nat × Nat)}{x:Nat}(h:E <+: E') (nd:(E'.map (·.1)).Nodup) (hx:x ∈ E.map (·.1)):C3 f E'.reverse x = C3 f E.reverse x ∧ iR E' x = iR E x:=by
 obtain ⟨D,rfl⟩ := h
 rw [List.map_append,List.nodup_append] at nd
 constructor
 ·rw [List.reverse_append]
  refine vT f _ _ _ (fun hd => ?_)
  rw [List.map_reverse,List.mem_reverse] at hd
  exact nd.2.2 x hx x hd rfl
 ·obtain ⟨e, he, rfl⟩ := List.mem_map.1 hx
  obtain ⟨k,a⟩ := e
  rw [Av nd.1 he,Av (by rw [List.map_append,List.nodup_append]; exact nd) (List.mem_append_left _ he)]
def eH (pts : List Pnt) (f x : Nat) : List Nat := if 0 ≤ iR (mK pts f) x then C3 f (mK pts f).reverse x else []
def eJ (l : List Nat) : List Int := l.map (fun (k : Nat) => (k : Int))
def kU (W : Nat → List Nat) (U : Nat → Bool) : Nat → Int × List Nat
 | 0 => (-1,[])
 | i + 1 => if U i = true ∧ W i ≠ [] ∧ ((kU W U i).1 < 0 ∨ (W i).length < (kU W U i).2.length) then ((i : Int),W i) else kU W U i
theorem qJ (W:Nat → List Nat) (U:Nat → Bool):∀ i,((kU W U i).1 = -1 ∧ (kU W U i).2 = []) ∨ ∃ j,j < i ∧ (kU W U i).1 = (j:Int) ∧ U j = true ∧ (kU W U i).2 = W j ∧ W j ≠ []
 | 0 => .inl ⟨rfl,rfl⟩
 | i + 1 => by
  rw [kU]; split
  ·rename_i h;exact .inr ⟨i,by omega,rfl,h.1,rfl,h.2.1⟩
  ·rcases qJ W U i with h | ⟨j, h1, h2⟩
   ·exact .inl h
   ·exact .inr ⟨j,by omega,h2⟩
def eO (ts : List Int) (pts : List Pnt) (Af : List Nat) (loan i : Nat) : Bool := (List.range ts.length).any fun v => decide (aV ts pts[i]! v ≠ 0) && (dG Af i)[v]!.testBit loan
theorem CT {pts:List Pnt}{f:Nat}{E:List (Nat × Nat)}(I:BI pts f E):∀ n R x,R.length ≤ n → R <:+ E.reverse → x ∈ R.map (·.1) → ∃ T,C3 f R x = f :: (T ++ [x])
 | n, R, x, hn, hR, hx => by
  obtain ⟨a,R',_,h2,h3,h4,h5⟩ := mU I hR hx
  rw [h4]
  unfold Oi
  by_cases e : a = f
  ·rw [if_pos e]; exact ⟨[],rfl⟩
  ·rw [if_neg e]
   cases n with
   | zero => omega
   | succ n =>
    obtain ⟨T,hT⟩ := CT I n R' a (by omega) h2 (h5 e)
    rw [hT]; exact ⟨T ++ [a],by simp⟩
section
variable {pts : List Pnt} {f : Nat} (w : ∀ i,i < pts.length → ∀ k ∈ pts[i]!.next,0 ≤ k ∧ k < pts.length) (hf : f < pts.length)
include w hf
theorem qM {x:Nat}(h:0 ≤ iR (mK pts f) x):∃ T,eH pts f x = f :: (T ++ [x]):=by
 unfold eH
 rw [if_pos h]
 have I : BI pts f (mK pts f) := oM w hf _
 exact CT I _ _ _ (Nat.le_refl _) (List.suffix_refl _) (by rw [List.map_reverse,List.mem_reverse]; exact fB.1 h)
theorem j5 {x:Nat}:eH pts f x ≠ [] ↔ Wy pts f x:=by
 rw [← gO w hf]
 constructor
 ·intro h
  apply Classical.byContradiction
  intro h2;unfold eH at h;rw [if_neg h2] at h;exact h rfl
 ·intro h
  obtain ⟨T,e⟩ := qM w hf h
  rw [e]; simp
theorem PA {E:List (Nat × Nat)}{x:Nat}(hE:E <+: mK pts f) (hx:0 ≤ iR E x):eH pts f x = C3 f E.reverse x ∧ BI pts f E:=by
 have I : BI pts f (mK pts f) := oM w hf _
 have hm := fB.1 hx
 have h1 := A1 (f := f) hE I.nd hm
 unfold eH
 rw [if_pos (by rw [h1.2]; exact hx)]
 refine ⟨h1.1,?_⟩
 obtain ⟨D,e⟩ := hE
 have nd := I.nd
 rw [← e,List.map_append,List.nodup_append] at nd
 refine ⟨nd.1,fun x hx => I.ed x (by rw [← e]; exact List.mem_append_left _ hx),fun D' R x h => I.pr D' (R ++ D) x (by rw [← e,h]; simp)⟩
end
section
variable {P : Program} {C : Ctx} {ι : Pl} {F : Nat → Prop} {T : Nat → Option AV} {H : Nat → Option (List AV)} {a : Act} {w : World} {o : Oper}
theorem w9 (t tn ty e:TypeId) (i:TypeInfo) (z:Value) (k kn:IntKind) (ht:P.underlying t = some (.slice e)) (htn:P.underlying tn = some (.int kn)) (hi:P.info? e = some i) (hz:i.zero = some z)
  (n : Nat) (h0 : 0 < n) (hs : 0 < i.size) (h63 : n ≤ 9223372036854775807) (hb : n * i.bytes ≤ 140737488355328) :
  (Builtin.append_ #[t, tn] ty #[.slice none 0 0, .int k (n : Int)]).run P w =
   .ok (.slice (some ⟨w.heap.size,0,none⟩) n (grownCap w n 0 e)) (w.drew.alloc (.cells (Builtin.zeroCells z.cells n ++ Builtin.zeroCells z.cells (grownCap w n 0 e - n)) e)) := by
 have h1 : n ≠ 0 := by omega
 have h2 : IntKind.i64.wrap (n : Int) = n := uW (by omega)
 have h3 : ¬ (9223372036854775807 < (n : Int)) := by omega
 have hfit := growslice_fits (need := n) (old := 0) (bytes := i.bytes) (by omega) hb
 have h4 : ¬ (281474976710656 < Builtin.nextslicecap n 0 * i.bytes) := by omega
 have h5 : ¬ (281474976710656 < (n : Int) * (i.bytes : Int)) := by rw [← Int.natCast_mul]; omega
 have h6 : ¬ ((n : Int) < 0) := by omega
 have h7 : ¬ (n * i.size = 0) := Nat.mul_ne_zero h1 (by omega)
 have h8 : ∀ w : World,(Builtin.firstCells i.size 0 (.slice none 0 0)).run P w = .ok #[] w := fun w => by simp [Builtin.firstCells,loadCells,loadCellsFrom]
 simp [Builtin.append_,bX ht,bX htn,sizeOf,typeInfo,zeroValue,hi,hz,asInt,asIntOf,h2,h1,h6,h7,h3,h4,h5,Question.forced,h8,newRow,grownCap]
theorem mR (z:Array Value):∀ n,(Builtin.zeroCells z n).toList = (List.replicate n z.toList).flatten := fun n => by
 have := rM z n (n * z.size) rfl
 simpa [Builtin.zeroCells,madeCells] using this
theorem KV (g:TG C ι T H a w) (gh:HG C ι F H w){t tn el:TypeId}{e by' id n:Nat}{x y:Operand}{zs:List Value}{k k':IntKind}(ho:o.op = .call ⟨.builtin .append,#[x,y],#[t,tn]⟩)
  (hx : ev T x = some (.v (.slice none 0 0))) (hy : ev T y = some (.v (.int k (n : Int)))) (ht : mI P t = some el) (htn : P.underlying tn = some (.int k')) (he : fL P el = some e) (hb : B2 P el = some by') (hz : oR P el = some zs) (hze : zs.length = e)
  (he0 : 0 < e) (h0 : 0 < n) (hsm : n * by' ≤ 140737488355328) (hmx : n ≤ 9223372036854775807) (hf : F id) :
  Ef P C ι (fun j => F j ∧ j ≠ id) H a w o (.own id 0 n e) (dU H id (some ((List.replicate n (zs.map .v)).flatten))) := by
 obtain ⟨i,z,h1,h2,h3,h4⟩ := oP hz
 have hzsz : z.cells.size = e := by rw [← hze,← h3]; simp
 have hx' := bU g hx
 have hy' := bU g hy
 simp only [Rd] at hx' hy'
 have hr := w9 (P := P) (w := w) t tn o.type el i z k k' (iA ht) htn h1 h2 n h0 (by rw [uM he h1]; exact he0) hmx (by rw [Em hb h1]; exact hsm)
 obtain ⟨g1,c1⟩ := rF gh
 have harr : (Builtin.zeroCells z.cells n).toList = (List.replicate n zs).flatten := by rw [mR,h3]
 obtain ⟨g3, c4⟩ := g1.alloc (id := id) hf (arr := Builtin.zeroCells z.cells n ++ Builtin.zeroCells z.cells (grownCap w n 0 el - n)) el (cs := (List.replicate n (zs.map AV.v)).flatten) (l := (List.replicate n zs).flatten) (rest := (Builtin.zeroCells z.cells (grownCap w n 0 el - n)).toList)
  (by rw [Array.toList_append, harr]) (by
   have : (List.replicate n (zs.map AV.v)).flatten = ((List.replicate n zs).flatten).map AV.v := by rw [List.map_flatten,List.map_replicate]
   rw [this]; exact sF (qK zs h4 n))
 refine ⟨_,.slice (some ⟨w.heap.size,0,none⟩) n (grownCap w n 0 el),_,_,?_,.inl ⟨rfl,?_⟩,g3,c1.trans c4⟩
 ·simp [execOp,ho,resolve,invoke,builtin,hx',hy',hr]
 ·simp only [Rd]
  have hge := grownCap_ge w n 0 el
  refine .inr ⟨w.heap.size,0,_,by simp,by simp,hge,?_⟩
  have hh : (w.drew.alloc (.cells (Builtin.zeroCells z.cells n ++ Builtin.zeroCells z.cells (grownCap w n 0 el - n)) el)).heap[w.heap.size]? = some (.cells (Builtin.zeroCells z.cells n ++ Builtin.zeroCells z.cells (grownCap w n 0 el - n)) el (0,0)) := heap_alloc_new w.drew _
  rw [s8,hh]
  simp only [Array.size_append,size_zeroCells,hzsz,← Nat.add_mul]
  rw [show n + (grownCap w n 0 el - n) = grownCap w n 0 el from by omega]
  omega
end
section
variable {P : Program} {N : Nat} {Q : Exit → AS → Prop} {all : Array Oper} {rest : List Oper} {ts : List (Nat × AV)} {hs : List (Nat × Option (List AV))} {n : Nat} {z0 : Lo} {md : Md}
variable {d : Nat} {ty : TypeId} {pos : String} {af : Array Edge}
theorem KM {t tn el:TypeId}{e by' m:Nat}{x y:Operand}{zs:List Value}{k k':IntKind}{z:Int}[ht:SlT P t el] [he:SzT P el e] [hb:ByT P el by'] [hz:ZrT P el zs] (htn:P.underlying tn = some (.int k'))
  (hx : ev (lk ts) x = some (.v (.slice none 0 0))) (hy : ev (lk ts) y = some (.v (.int k z))) (hzm : z = (m : Int)) (hze : zs.length = e) (he0 : Nat.blt 0 e = true) (h0 : 0 < m) (hsm : m * by' ≤ 140737488355328) (hmx : m ≤ 9223372036854775807)
  (hM : Nat.blt n a6 = true) (hN : Nat.blt d N = true) (kk : RW P N all Q .txt rest ⟨(d,.own n 0 m e) :: ts,(n,some ((List.replicate m (zs.map .v)).flatten)) :: hs,n + 1,z0⟩) :
  RW P N all Q .txt (⟨some d,.call ⟨.builtin .append,#[x,y],#[t,tn]⟩,ty,pos,af,none⟩ :: rest) ⟨ts,hs,n,z0⟩ := by
 subst hzm
 exact Rm (rs := rO x ++ rO y) rfl rfl (cS hN) hM (fun C ι F T H a w ag hF g gh => KV g gh rfl (ag.l.ev.trans hx) (ag.r.ev.trans hy) ht.pf htn he.pf hb.pf hz.pf hze (cS he0) h0 hsm hmx hF) kk
theorem Hj {t el:TypeId}{x:Operand}[ht:SlT P t el] (hx:ev (lk ts) x = some (.v (.slice none 0 0))) (hN:Nat.blt d N = true) (kk:RW P N all Q .txt rest ⟨(d,.v (.int .i64 0)) :: ts,hs,n,z0⟩) :
  RW P N all Q .txt (⟨some d,.call ⟨.builtin .cap,#[x],#[t]⟩,ty,pos,af,none⟩ :: rest) ⟨ts,hs,n,z0⟩ := by
 refine dI (out := .v (.int .i64 0)) (rs := rO x) rfl rfl (cS hN) (fun C ι F T H a w ag g gh => ?_) kk
 have hx' := bU g (ag.ev.trans hx)
 simp only [Rd] at hx'
 exact ⟨.int .i64 0,by simp [execOp,resolve,invoke,builtin,hx',Builtin.cap_,bX (iA ht.pf),goInt],by simp only [Rd]⟩
theorem vA {t el:TypeId}{x y:Operand}{i o m e:Nat}{k:IntKind}{z:Int}{h:Nat}[ht:SlT P t el] [he:SzT P el e] (hx:ev (lk ts) x = some (.own i o m e)) (hy:ev (lk ts) y = some (.v (.int k z))) (hz:z = (h:Int)) (hb:h ≤ m) (hN:Nat.blt d N = true)
  {md' : Md} [hmd : MdA md (rO x ++ (rB none ++ rB (some y))) [.inl d] md'] (kk : RW P N all Q md' rest ⟨(d,.own i o h e) :: ts,hs,n,z0⟩) : RW P N all Q md (⟨some d,.slice t x none (some y) none,ty,pos,af,none⟩ :: rest) ⟨ts,hs,n,z0⟩ := by
 subst hz
 exact gR (m := m) (l := 0) (h := h) hx rfl rfl (by simp [gA,hy]) (by simp [Od,hb]) hN (md' := md') (hmd := hmd) kk
theorem Cn {t el e:TypeId}{x:Operand}{hi:Option Operand}[ht:SlT P t el] [he:SzT P el e] (hx:ev (lk ts) x = some (.v (.slice none 0 0))) (hh:gA (lk ts) hi 0 = some 0) (hN:Nat.blt d N = true)
  (kk : RW P N all Q .txt rest ⟨(d,.v (.slice none 0 0)) :: ts,hs,n,z0⟩) : RW P N all Q .txt (⟨some d,.slice t x none hi none,ty,pos,af,none⟩ :: rest) ⟨ts,hs,n,z0⟩ := by
 refine dI (out := .v (.slice none 0 0)) (rs := rO x ++ rB hi) rfl rfl (cS hN) (fun C ι F T H a w ag g gh => ?_) kk
 have h1 := bU g (ag.l.ev.trans hx)
 simp only [Rd] at h1
 have hu := iA ht.pf
 have hr := iC (P := P) (w := w) (is := true) (cap := 0) g (lo := none) (hi := hi) (l := 0) (h := 0) (n := 0) rfl (ag.r.bnd.trans hh) (Nat.le_refl _) (Nat.le_refl _) (Nat.le_refl _)
 rw [show Option.map a.eval (none : Option Operand) = none from rfl] at hr
 refine ⟨.slice none 0 0,?_,by simp only [Rd]⟩
 simp [execOp,h1,Instr.sliceAt,bX hu,Instr.slice,hr,e7 he.pf]
end
theorem Le.cut {ts:List (Nat × AV)}{hs:List (Nat × Option (List AV))}{n:Nat}{z0:Lo}{i:Nat}{cs:List AV}(k:Nat) (hi:aT hs i = some cs) :
  Le ⟨ts,hs,n,z0⟩ ⟨ts,(i,some (cs.take k)) :: hs,n,z0⟩ := by
 rintro C a w ⟨h0,ι,g,gh⟩
 have hσ : ∀ id c, aT ((i, some (cs.take k)) :: hs) id = some c → ∃ c0, aT hs id = some c0 ∧ (c = c0 ∨ c = c0.take k) := by
  intro id c h
  rw [cP] at h
  split at h
  ·rename_i e;subst e;cases h;exact ⟨cs,hi,.inr rfl⟩
  ·exact ⟨c,h,.inl rfl⟩
 have car : Carry w (aL C.X ι (aT hs)) ι w (aL C.X ι (aT ((i, some (cs.take k)) :: hs))) ι := by
  refine ⟨fun b o' x h1 h2 => ⟨?_,h2⟩,fun _ _ h => h,fun _ => Nat.le_refl _⟩
  rintro (h | ⟨id,c,β,q1,q2⟩)
  ·exact h1 (.inl h)
  ·obtain ⟨c0, r, _⟩ := hσ id c q1
   exact h1 (.inr ⟨id,c0,β,r,q2⟩)
 refine ⟨h0,ι,⟨g.df,g.sz,fun t av ht => ?_⟩,⟨fun id c h => ?_,fun id id' c c' b β β' q1 q2 q3 q4 => ?_,gh.fr,gh.ex,gh.fresh⟩⟩
 ·obtain ⟨y, hy, hr⟩ := g.tm t av ht
  exact ⟨y,hy,Rd.carry car _ _ hr⟩
 ·obtain ⟨c0, r, e⟩ := hσ id c h
  rcases gh.obj id c0 r with ⟨h1,h2⟩ | ⟨b',β',arr',e',h1,h2,h3,h4,h5,h6⟩
  ·refine .inl ⟨h1, ?_⟩
   rcases e with e|e
   ·rw [e,h2]
   ·rw [e,h2]; simp
  ·refine .inr ⟨b', β', arr', e', h1, h2, ?_, ?_, h5, h6⟩
   ·rcases e with e | e
    ·rw [e]; exact h3
    ·rw [e,List.length_take]; omega
   ·have h7 := RdC.carryB car _ _ _ (fun o x hx => hx) h4
    rcases e with e|e
    ·rw [e]; exact h7
    ·rw [e]; exact RdC.take k h7
 ·obtain ⟨_, r1, _⟩ := hσ id c q1
  obtain ⟨_,r2,_⟩ := hσ id' c' q2
  exact gh.sep _ _ _ _ _ _ _ r1 r2 q3 q4
def RH (l : List Int) : List AV := [sl cI l]
instance : FlT RH 1:=⟨fun _ => rfl⟩
instance : FE RH (fun l => [sl cI l]):=⟨fun _ => rfl⟩
instance (l : List Int) : Pur (RH l):=⟨by show (AV.pur (sl cI l) && true) = true;rw [Bool.and_true]; exact bD cI l⟩
section
variable {P : Program} {N : Nat} {Q : Exit → AS → Prop} {all : Array Oper} {rest : List Oper} {ts : List (Nat × AV)} {hs : List (Nat × Option (List AV))} {n : Nat} {z0 : Lo}
variable {d : Nat} {ty : TypeId} {pos : String} {af : Array Edge}
theorem fP {fn:Go.Fn}{cs:Array Operand}{i:Nat}{cc c:List AV}(t:Nat) (hx:lk ts t = some (.optr i 0)) (hH:aT hs i = some cc) (hc:evL (lk ((t,.iptr cc) :: ts)) cs.toList = some c) (hN:Nat.blt d N = true)
  (kk : RW P N all Q .txt rest ⟨(d,.clos fn [] c) :: (t,.iptr cc) :: ts,(i,none) :: hs,n,z0⟩) : RW P N all Q .txt (⟨some d,.makeFunc fn #[] cs,ty,pos,af,none⟩ :: rest) ⟨ts,hs,n,z0⟩ :=
 cX (mX (f := []) (c := c) rfl hc hN (md' := .txt) kk) (Le.frzP hx hH)
end
theorem PH {P:Program}{C:Ctx}{ι:Pl}{F':Nat → Prop}{H:Nat → Option (List AV)}{a:Act}{w:World}{o:Oper}{id m e:Nat}{cs:List AV}
  (h : Ef P C ι F' H a w o (.own id 0 m e) (dU H id (some cs))) : Ef P C ι F' H a w o (.imm m cs) (dU H id none) := by
 obtain ⟨n,y,ι',w',h1,h2,h3,h4⟩ := h
 obtain ⟨g, c⟩ := h3.less (F' := F') (H' := dU H id none) (fun j c hj => by
  by_cases e1 : j = id
  ·subst e1;simp at hj
  ·rw [bF _ _ e1] at hj ⊢; exact hj) (fun _ h => h)
 refine ⟨n,y,ι',w',h1,?_,g,h4.trans c⟩
 rcases h2 with ⟨e1,hr⟩ | ⟨_,_,e3⟩
 ·refine .inl ⟨e1, ?_⟩
  have hi : dU H id (some cs) id = some cs := upd_same _ _ _
  simp only [Rd] at hr ⊢
  rcases hr with ⟨_,h2,a',h3'⟩ | ⟨b,β,c',q1,q2,q3,q4⟩
  ·subst h2;exact ⟨a',0,h3',.inl rfl⟩
  ·refine ⟨_, c', q2, ?_⟩
   rcases Nat.eq_zero_or_pos m with h5|h5
   ·exact .inl h5
   ·refine .inr ⟨b, β + 0, q3, rfl, ?_⟩
    rcases h3.obj id cs hi with ⟨r1,r2⟩ | ⟨b',β',arr,e',r1,r2,r3,r4,r5,r6⟩
    ·rw [q1] at r1;cases r1
    ·rw [q1] at r1; cases r1
     refine .inr ⟨?_,RdC.carryB c _ _ _ (fun o x hx => hx) r4⟩
     rintro (h | ⟨id',cs',β',s1,s2⟩)
     ·exact r5 h
     ·by_cases e1 : id' = id
      ·subst e1;simp at s1
      ·rw [bF _ _ e1] at s1
       exact e1 (h3.sep _ _ _ _ _ _ _ (by rw [bF _ _ e1]; exact s1) hi s2 q1)
 ·cases e3
section
variable {P : Program} {N : Nat} {Q : Exit → AS → Prop} {all : Array Oper} {rest : List Oper} {ts : List (Nat × AV)} {hs : List (Nat × Option (List AV))} {n : Nat} {z0 : Lo} {md : Md}
variable {d : Nat} {ty : TypeId} {pos : String} {af : Array Edge}
theorem uU {t el len e:Nat}{parts:Array (Nat × Operand)}{zs:List Value}{l:List (Nat × AV)}{cs:List AV}[ht:SlT P t el] [he:SzT P el e] [hz:ZrT P el zs] (hze:zs.length = e) (hsm:Nat.ble (len * e) 16777216 = true)
  (hl : evs (lk ts) parts.toList = some l) (hfl : jB (fun i => some (i * e,e)) ((List.replicate len (zs.map .v)).flatten) l = some cs) (hM : Nat.blt n a6 = true) (hN : Nat.blt d N = true) {md' : Md} [hmd : MdA md (JL parts.toList) [.inr n,.inl d] md']
  (kk : RW P N all Q md' rest ⟨(d,.imm len cs) :: ts,(n,none) :: hs,n + 1,z0⟩) :
  RW P N all Q md (⟨some d,.buildSlice t len parts,ty,pos,af,none⟩ :: rest) ⟨ts,hs,n,z0⟩ :=
 CZ (rs := JL parts.toList) (ws := [(n, none)]) (n' := n + 1) (out := .imm len cs) rfl (fun x h => by cases h; exact cS hN) (Nat.le_succ n) (.inr (cS hM))
  (fun C ι F T H a w ag hF g gh => D8 (PH (oH g gh rfl ht.pf he.pf hz.pf hze (by simpa using hsm) (ag.evs.trans hl) hfl (hF n (Nat.le_refl n) (Nat.lt_succ_self n))))) (by rw [show md.add (JL parts.toList) ([(n,(none : Option (List AV)))].map (fun p => .inr p.1) ++ wD (some d)) = md' from hmd.pf]; exact kk)
end
theorem pT {xs ys:List Int}{m:Nat}(hm:m = xs.length):((flat cI xs).drop 0).take (m * 1) ++ flat cI ys = flat cI (xs ++ ys):=by
 subst hm
 have h : (flat cI xs).length = xs.length * 1 := aI cI xs
 rw [List.drop_zero,List.take_of_length_le (by omega)]
 simp [flat]
theorem JF {hs:List (Nat × Option (List AV))}{id m e':Nat}{u:List Int}(h:aT hs id = some (flat cI u)) (hm:m = u.length):sCells (aT hs) 1 (qR (.own id 0 m e')) = some (m,flat cI u):=by
 subst hm
 have hl : (flat cI u).length = u.length * 1 := aI cI u
 show ((aT hs id).bind fun cs => if u.length * 1 ≤ (cs.drop 0).length then some (u.length,(cs.drop 0).take (u.length * 1)) else none) = _
 rw [h]
 show (if u.length * 1 ≤ ((flat cI u).drop 0).length then some (u.length,((flat cI u).drop 0).take (u.length * 1)) else none) = _
 rw [List.drop_zero,if_pos (by omega),List.take_of_length_le (by omega)]
theorem uF {f:Nat}{E:List (Nat × Nat)}{h:Nat}(hh:h < (k9 f E).length):fT f E h = ((k9 f E)[h]!:Int) :: fT f E (h + 1):=by
 unfold fT
 rw [List.drop_eq_getElem_cons hh,List.map_cons,aY _ _ hh]
theorem xW {f:Nat}{E:List (Nat × Nat)}{h:Nat}:fT f E h = [] ↔ (k9 f E).length ≤ h:=by
 unfold fT
 rw [List.map_eq_nil_iff,List.drop_eq_nil_iff]
theorem nT (f:Nat) (E:List (Nat × Nat)) (h:Nat):(fT f E h).length = E.length + 1 - h:=by
 unfold fT;rw [List.length_map,List.length_drop,gS]
theorem yY {f:Nat}{E:List (Nat × Nat)}{h k a:Nat}(hh:h ≤ (k9 f E).length):fT f (E ++ [(k,a)]) h = fT f E h ++ [(k:Int)]:=by
 unfold fT
 have : k9 f (E ++ [(k,a)]) = k9 f E ++ [k] := by unfold k9;simp
 rw [this,List.drop_append_of_le_length hh]; simp
theorem AX {E:List (Nat × Nat)}{a k:Nat}(h:iR E k < 0):HR E a k = E ++ [(k,a)] := by unfold HR;rw [if_pos h]
theorem FU {E:List (Nat × Nat)}{a k:Nat}(h:0 ≤ iR E k):HR E a k = E := by unfold HR;rw [if_neg (by omega)]
structure CS (pts : List Pnt) (f t : Nat) (E : List (Nat × Nat)) (x : Nat) (R : List (Nat × Nat)) (v : List Int) : Prop where
 suf : R <:+ E.reverse
 mem : x ≠ f → x ∈ R.map (·.1)
 eq : eJ (eH pts f t) = eJ (Oi f R x) ++ v
 len : v.length + R.length ≤ E.length
 xl : x < pts.length
section
variable {pts : List Pnt} {f t : Nat} (w : ∀ i,i < pts.length → ∀ k ∈ pts[i]!.next,0 ≤ k ∧ k < pts.length) (hf : f < pts.length)
include w hf
theorem CS.start {E:List (Nat × Nat)}(hE:E <+: mK pts f) (ht:0 ≤ iR E t):BI pts f E ∧ ∃ (a:Nat) (R:List (Nat × Nat)),iR E t = (a:Int) ∧ CS pts f t E a R [(t:Int)]:=by
 obtain ⟨e,I⟩ := PA w hf hE ht
 refine ⟨I,?_⟩
 obtain ⟨a,R,h1,h2,h3,h4,h5⟩ := mU I (List.suffix_refl _) (by rw [List.map_reverse,List.mem_reverse]; exact fB.1 ht : t ∈ E.reverse.map (·.1))
 refine ⟨a,R,h1,h2,h5,?_,by rw [List.length_reverse] at h3;simp;omega,?_⟩
 ·rw [e,h4]; simp [eJ]
 ·by_cases h : a = f
  ·rw [h]; exact hf
  ·obtain ⟨x, hx, rfl⟩ := List.mem_map.1 (h5 h)
   have : x ∈ E := by rw [← List.mem_reverse]; exact h2.subset hx
   exact ((I.le w).2 x this).1
theorem CS.step {E R:List (Nat × Nat)}{x:Nat}{v:List Int}(I:BI pts f E) (c:CS pts f t E x R v) (hx:x ≠ f):∃ (a:Nat) (R':List (Nat × Nat)),iR E x = (a:Int) ∧ CS pts f t E a R' ((x:Int) :: v) ∧ R'.length < R.length:=by
 obtain ⟨a,R',h1,h2,h3,h4,h5⟩ := mU I c.suf (c.mem hx)
 refine ⟨a,R',h1,⟨h2,h5,?_,by have := c.len;simp;omega,?_⟩,h3⟩
 ·rw [c.eq]; unfold Oi at h4 ⊢; rw [if_neg hx,h4]; simp [eJ]
 ·by_cases h : a = f
  ·rw [h]; exact hf
  ·obtain ⟨x, hx, rfl⟩ := List.mem_map.1 (h5 h)
   have : x ∈ E := by rw [← List.mem_reverse]; exact h2.subset hx
   exact ((I.le w).2 x this).1
end
theorem CS.fin {pts:List Pnt}{f t:Nat}{E R:List (Nat × Nat)}{v:List Int}(c:CS pts f t E f R v):eJ (eH pts f t) = (f:Int) :: v:=by
 rw [c.eq]; unfold Oi;rw [if_pos rfl]; rfl
theorem c5 (l:List Nat):(eJ l).length = l.length := by unfold eJ;simp
theorem zA {W:Nat → List Nat}{U:Nat → Bool}{i:Nat}(h:U i = false ∨ W i = []):kU W U (i + 1) = kU W U i:=by
 rw [kU,if_neg]
 rintro ⟨h1,h2,_⟩
 rcases h with h|h
 ·rw [h] at h1;cases h1
 ·exact h2 h
theorem tL {W:Nat → List Nat}{U:Nat → Bool}{i:Nat}(h1:U i = true) (h2:W i ≠ []) (h3:(kU W U i).1 < 0 ∨ (W i).length < (kU W U i).2.length):kU W U (i + 1) = ((i:Int),W i):=by
 rw [kU,if_pos ⟨h1,h2,h3⟩]
theorem EG {W:Nat → List Nat}{U:Nat → Bool}{i:Nat}(h3:0 ≤ (kU W U i).1) (h4:(kU W U i).2.length ≤ (W i).length):kU W U (i + 1) = kU W U i:=by
 rw [kU,if_neg]
 rintro ⟨_,_,h5⟩
 omega
theorem Ez {pts:List Pnt}{f x:Nat}(w:∀ i,i < pts.length → ∀ k ∈ pts[i]!.next,0 ≤ k ∧ k < pts.length) (hf:f < pts.length) (h:0 ≤ iR (mK pts f) x):eH pts f x ≠ [] := (j5 w hf).2 ((gO w hf x).1 h)
theorem EB {pts:List Pnt}{f x:Nat}(h:iR (mK pts f) x < 0):eH pts f x = [] := by unfold eH;rw [if_neg (by omega)]
theorem FR {pts:List Pnt}{f:Nat}{E:List (Nat × Nat)}(I:BI pts f E):∀ n R x,R.length ≤ n → R <:+ E.reverse → x ∈ R.map (·.1) → (C3 f R x).length ≤ R.length + 1
 | n, R, x, hn, hR, hx => by
  obtain ⟨a,R',_,h2,h3,h4,h5⟩ := mU I hR hx
  rw [h4]
  unfold Oi
  by_cases e : a = f
  ·rw [if_pos e]; simp;omega
  ·rw [if_neg e]
   cases n with
   | zero => omega
   | succ n =>
    have := FR I n R' a (by omega) h2 (h5 e)
    rw [List.length_append,List.length_singleton]; omega
theorem iL {pts:List Pnt}{f x:Nat}(w:∀ i,i < pts.length → ∀ k ∈ pts[i]!.next,0 ≤ k ∧ k < pts.length) (hf:f < pts.length):(eH pts f x).length ≤ pts.length + 1:=by
 unfold eH
 split
 ·rename_i h
  have I : BI pts f (mK pts f) := oM w hf _
  have := FR I _ _ _ (Nat.le_refl _) (List.suffix_refl _) (by rw [List.map_reverse,List.mem_reverse]; exact fB.1 h : x ∈ (mK pts f).reverse.map (·.1))
  have h2 := (I.le w).1
  rw [List.length_reverse] at this;omega
 ·simp
theorem I3 (ts:List Int) (pts:List Pnt) (Af:List Nat) (loan i:Nat) (hn:ts.length ≤ 6):((a7 (wS ts pts[i]! [1,2,3])).any fun v => (dG Af i)[v.toNat]!.testBit loan) = eO ts pts Af loan i:=by
 rw [Bool.eq_iff_iff,List.any_eq_true]
 unfold eO
 rw [List.any_eq_true]
 constructor
 ·rintro ⟨z, hz, h2⟩
  obtain ⟨v,h3,h4,rfl⟩ := cJ.1 hz
  rw [cC] at h4
  simp only [Bool.and_eq_true,decide_eq_true_eq] at h4
  refine ⟨v,List.mem_range.2 h4.1,?_⟩
  rw [Int.toNat_natCast] at h2
  rw [h2,Bool.and_true,decide_eq_true_eq]
  intro h0;rw [h0] at h4;simp at h4
 ·rintro ⟨v, hv, h2⟩
  simp only [Bool.and_eq_true,decide_eq_true_eq,List.mem_range] at h2 hv
  have := pV ts pts[i]! v
  refine ⟨(v : Int),cJ.2 ⟨v,by omega,?_,rfl⟩,by rw [Int.toNat_natCast]; exact h2.2⟩
  rw [cC]
  simp only [Bool.and_eq_true,decide_eq_true_eq,List.mem_cons,List.not_mem_nil,or_false]
  omega
structure RI (pts : List Pnt) (a : Nat) (F : List Bool) (T : List Int) : Prop where
 len : F.length = pts.length
 src : ∀ k ∈ pts[a]!.next,F[k.toNat]! = true ∨ k ∈ T
 cl : ∀ i,i < pts.length → F[i]! = true → ∀ k ∈ pts[i]!.next,F[k.toNat]! = true ∨ k ∈ T
 snd : ∀ i,i < pts.length → F[i]! = true → Wy pts a i
 tw : ∀ k ∈ T,0 ≤ k ∧ k < pts.length ∧ Wy pts a k.toNat
def C7 (F : List Bool) (T : List Int) : Nat := 3 * F.countP (fun b => !b) + T.length
theorem RI.start {pts:List Pnt}{a:Nat}(w:∀ i,i < pts.length → ∀ k ∈ pts[i]!.next,0 ≤ k ∧ k < pts.length) (ha:a < pts.length):RI pts a (List.replicate pts.length false) pts[a]!.next:=by
 have h0 : ∀ i, (List.replicate pts.length false)[i]! = true → False := fun i h => by
  by_cases hi : i < pts.length
  ·rw [aY _ i (by simpa using hi)] at h;simp at h
  ·rw [getElem!_neg _ i (by simpa using hi)] at h;cases h
 exact ⟨by simp, fun k hk => .inr hk, fun i hi h => (h0 i h).elim, fun i hi h => (h0 i h).elim, fun k hk =>
  ⟨(w a ha k hk).1,(w a ha k hk).2,.base ⟨ha,by rw [Int.toNat_of_nonneg (w a ha k hk).1]; exact hk⟩⟩⟩
theorem RI.vis {pts:List Pnt}{a:Nat}{F:List Bool}{T T':List Int}{k:Int}(I:RI pts a F T) (h1:∀ x ∈ T,x = k ∨ x ∈ T') (h2:∀ x ∈ T',x ∈ T) (hF:F[k.toNat]! = true):RI pts a F T':=by
 have key : ∀ x, F[x.toNat]! = true ∨ x ∈ T → F[x.toNat]! = true ∨ x ∈ T' := fun x h => by
  rcases h with h|h
  ·exact .inl h
  ·rcases h1 x h with rfl | h
   ·exact .inl hF
   ·exact .inr h
 exact ⟨I.len,fun x hx => key x (I.src x hx),fun i hi h x hx => key x (I.cl i hi h x hx),I.snd,fun x hx => I.tw x (h2 x hx)⟩
theorem RI.new {pts:List Pnt}{a:Nat}(w:∀ i,i < pts.length → ∀ k ∈ pts[i]!.next,0 ≤ k ∧ k < pts.length){F:List Bool}{T T':List Int}{k:Int}(I:RI pts a F T) (hk:k ∈ T) (h1:∀ x ∈ T,x = k ∨ x ∈ T') (h2:∀ x ∈ pts[k.toNat]!.next,x ∈ T') (h3:∀ x ∈ T',x ∈ T ∨ x ∈ pts[k.toNat]!.next) :
  RI pts a (F.set k.toNat true) T' := by
 have hkl := I.tw k hk
 have hl := I.len
 have mono : ∀ i : Nat, F[i]! = true → (F.set k.toNat true)[i]! = true := fun i h => by
  rw [aW]; split
  ·rfl
  ·exact h
 have hkk : (F.set k.toNat true)[k.toNat]! = true := by rw [aW,if_pos ⟨rfl,by omega⟩]
 have key : ∀ x, F[x.toNat]! = true ∨ x ∈ T → (F.set k.toNat true)[x.toNat]! = true ∨ x ∈ T' := fun x h => by
  rcases h with h|h
  ·exact .inl (mono _ h)
  ·rcases h1 x h with rfl | h
   ·exact .inl hkk
   ·exact .inr h
 have hold : ∀ i, (F.set k.toNat true)[i]! = true → i = k.toNat ∨ F[i]! = true := fun i h => by
  rw [aW] at h;split at h
  ·rename_i e;exact .inl e.1.symm
  ·exact .inr h
 refine ⟨by rw [List.length_set]; exact hl,fun x hx => key x (I.src x hx),fun i hi h x hx => ?_,fun i hi h => ?_,fun x hx => ?_⟩
 ·rcases hold i h with rfl | h
  ·exact .inr (h2 x hx)
  ·exact key x (I.cl i hi h x hx)
 ·rcases hold i h with rfl | h
  ·exact hkl.2.2
  ·exact I.snd i hi h
 ·rcases h3 x hx with h | h
  ·exact I.tw x h
  ·have := w _ (by omega) x h
   exact ⟨this.1,this.2,.step hkl.2.2 ⟨by omega,by rw [Int.toNat_of_nonneg this.1]; exact h⟩⟩
theorem RI.fin {pts:List Pnt}{a:Nat}{F F0:List Bool}(I:RI pts a F []) (hF:GoodR pts a F0) (w:∀ i,i < pts.length → ∀ k ∈ pts[i]!.next,0 ≤ k ∧ k < pts.length):F = F0:=by
 refine bT (by rw [I.len,hF.l]) fun i hi => ?_
 rw [I.len] at hi
 rw [Bool.eq_iff_iff,hF.g i hi]
 refine ⟨I.snd i hi,fun h => ?_⟩
 have := Clo.sub (T := fun k => F[k]! = true) (fun k he => ?_) (fun x y hx he => ?_) i h
 ·exact this
 ·rcases I.src _ he.2 with h | h
  ·simpa using h
  ·cases h
 ·rcases I.cl x he.1 hx _ he.2 with h | h
  ·simpa using h
  ·cases h
theorem NS {F:List Bool}{k:Nat}(hk:k < F.length) (h:F[k]! = false) (T:List Int):C7 (F.set k true) T + 3 = C7 F T:=by
 unfold C7
 have h1 : F[k] = false := by rw [← aY F k hk]; exact h
 have h2 : 0 < F.countP (fun b => !b) := List.countP_pos_iff.2 ⟨F[k],List.getElem_mem hk,by rw [h1]; rfl⟩
 rw [List.countP_set hk,h1]; simp;omega
theorem NZ (F:List Bool) (T:List Int):T.length ≤ C7 F T := by unfold C7;omega
theorem NB (F:List Bool) (T S:List Int):C7 F (T ++ S) = C7 F T + S.length := by unfold C7;rw [List.length_append]; omega
theorem G9 {n:Nat}{T:List Int}(hn:n ≤ 61) (hT:T.length ≤ 2):C7 (List.replicate n false) T ≤ 200:=by
 unfold C7
 have : (List.replicate n false).countP (fun b => !b) ≤ n := Nat.le_trans List.countP_le_length (by simp)
 omega
theorem I7 (E:List (Nat × Nat)) (a:Nat) (A B:List Int):jV E a (A ++ B) = jV (jV E a A) a B := by unfold jV;rw [List.foldl_append]
theorem Gw (E:List (Nat × Nat)) (a:Nat) (L:List Int) (k:Nat):jV E a (L.take k) <+: jV E a L:=by
 have : jV E a L = jV (jV E a (L.take k)) a (L.drop k) := by rw [← I7,List.take_append_drop]
 rw [this]; exact iU _ _ _
theorem Jz {pts:List Pnt}{f h a:Nat}(hlt:h < (k9 f (kS pts f h)).length) (ha:a = (k9 f (kS pts f h))[h]!):kS pts f (h + 1) = jV (kS pts f h) a pts[a]!.next:=by
 rw [kS,if_pos hlt,← ha]
theorem NN (a b:List Nat):eJ (a ++ b) = eJ a ++ eJ b := by unfold eJ;simp
theorem JX {T:List Int}{m:Nat}:(flat cI T).take m = flat cI (T.take m):=by
 have := dL cI (e := 1) T m;rw [Nat.mul_one] at this;exact this
theorem JE {T:List Int}{m:Nat}(hm:m = T.length) (h:0 < m):T[m - 1]! ∈ T ∧ ∀ x ∈ T,x = T[m - 1]! ∨ x ∈ T.take (m - 1):=by
 subst hm
 refine ⟨aS _ _ (by omega),fun x hx => ?_⟩
 have e : T = T.take (T.length - 1) ++ [T[T.length - 1]!] := by
  rw [← bG T _ (by omega),show T.length - 1 + 1 = T.length by omega,List.take_length]
 rw [e] at hx
 rcases List.mem_append.1 hx with h|h
 ·exact .inr h
 ·exact .inl (List.mem_singleton.1 h)
theorem LR {W:Nat → List Nat}{U:Nat → Bool}{m:Nat}(h:∀ j,(W j).length ≤ m) (i:Nat):(kU W U i).2.length ≤ m:=by
 rcases qJ W U i with ⟨_,e⟩ | ⟨j,_,_,_,e,_⟩
 ·rw [e]; exact Nat.zero_le _
 ·rw [e]; exact h j
theorem Kg {pts:List Pnt}{f:Nat}(w:∀ i,i < pts.length → ∀ k ∈ pts[i]!.next,0 ≤ k ∧ k < pts.length) (hf:f < pts.length){U:Nat → Bool}{i:Nat}{bl:List Int}(hbl:bl = eJ (kU (eH pts f) U i).2) (h0:bl.length ≠ 0) :
  bl[((bl.length : Int) - 1).toNat]! = (kU (eH pts f) U i).1 ∧ 0 ≤ (kU (eH pts f) U i).1 := by
 rcases qJ (eH pts f) U i with ⟨_,e⟩ | ⟨j,_,e1,_,e,hn⟩
 ·rw [hbl,e] at h0;exact absurd rfl h0
 ·refine ⟨?_, by omega⟩
  obtain ⟨T,hT⟩ := qM w hf ((gO w hf j).2 ((j5 w hf).1 hn))
  rw [e1]
  have eb : bl = eJ (f :: T) ++ [(j : Int)] := by rw [hbl,e,hT,← List.cons_append,NN]; rfl
  have el : ((bl.length : Int) - 1).toNat = (eJ (f :: T)).length := by rw [eb]; simp
  rw [el,eb,fN,if_neg (by omega),Nat.sub_self]; rfl
theorem N2 {W:Nat → List Nat}{U:Nat → Bool}{i:Nat}:((kU W U i).1 < 0 ∧ (kU W U i).2.length = 0) ∨ (0 ≤ (kU W U i).1 ∧ 0 < (kU W U i).2.length):=by
 rcases qJ W U i with ⟨e1,e⟩ | ⟨j,_,e1,_,e,hn⟩
 ·rw [e,e1]; exact .inl ⟨by decide,rfl⟩
 ·rw [e,e1]; exact .inr ⟨by omega,List.length_pos_iff.2 hn⟩
theorem Rch.wy {pts:List Pnt}(r:Rch pts):∀ n t,t ≤ n → 0 < t → t < pts.length → Wy pts 0 t
 | n, t, hn, h0, ht => by
  obtain ⟨j,hj,e⟩ := r t h0 ht
  by_cases hz : j = 0
  ·subst hz;exact .base e
  ·cases n with
   | zero => omega
   | succ n => exact .step (r.wy n j (by omega) (by omega) e.1) e
def rC (pts : List Pnt) (t : Nat) : List Nat := if t = 0 then [0] else eH pts 0 t
theorem pN {pts:List Pnt}(w:∀ i,i < pts.length → ∀ k ∈ pts[i]!.next,0 ≤ k ∧ k < pts.length) (r:Rch pts){t:Nat}(ht:t < pts.length):∃ T,rC pts t = 0 :: T:=by
 unfold rC
 by_cases h : t = 0
 ·rw [if_pos h]; exact ⟨[],rfl⟩
 ·rw [if_neg h]
  obtain ⟨T,e⟩ := qM w (by omega) ((gO w (by omega) t).2 (r.wy t t (Nat.le_refl _) (by omega) ht))
  exact ⟨_,e⟩
theorem oA {pts:List Pnt}(w:∀ i,i < pts.length → ∀ k ∈ pts[i]!.next,0 ≤ k ∧ k < pts.length) (h0:0 < pts.length) (t:Nat):(rC pts t).length ≤ pts.length + 1:=by
 unfold rC;split
 ·simp
 ·exact iL w h0
theorem DA {ts:List Int}{v:Int}(h:0 < fG ts v):fG ts v = ts[v.toNat]!:=by
 unfold fG at h ⊢
 split at h
 ·rename_i c;rw [if_pos c]
 ·omega
end Go.AL
namespace Go.AL
def IS (a b : Iss) : Bool := a.point == b.point && (a.kind == b.kind && a.with_ == b.with_)
theorem tD (a b:Iss):IS a b = true ↔ a = b:=by
 unfold IS
 simp only [Bool.and_eq_true,beq_iff_eq]
 constructor
 ·rintro ⟨h1,h2,h3⟩; cases a;cases b;simp only at h1 h2 h3;rw [h1,h2,h3]
 ·rintro rfl;exact ⟨rfl,rfl,rfl⟩
end Go.AL
namespace Go.AL
def Chn (pts : List Pnt) : List Nat → Prop
 | [] => True
 | [_] => True
 | a :: b :: l => cO pts a b ∧ Chn pts (b :: l)
theorem Chn.snoc {pts:List Pnt}{a x:Nat}(e:cO pts a x):∀ T:List Nat,Chn pts (T ++ [a]) → Chn pts (T ++ [a] ++ [x])
 | [],_ => ⟨e,trivial⟩
 | [b],h => ⟨h.1,e,trivial⟩
 | b :: c :: T,h => ⟨h.1,Chn.snoc e (c :: T) h.2⟩
theorem Chn.join {pts:List Pnt}{x:Nat}{B:List Nat}(h2:Chn pts (x :: B)):∀ A:List Nat,Chn pts (A ++ [x]) → Chn pts (A ++ [x] ++ B)
 | [],_ => h2
 | [b],h => ⟨h.1,h2⟩
 | b :: c :: A,h => ⟨h.1,Chn.join h2 (c :: A) h.2⟩
theorem Chn.at {pts:List Pnt}:∀ (W:List Nat) (i:Nat),Chn pts W → i + 1 < W.length → cO pts W[i]! W[i + 1]!
 | [],_,_,h => by simp at h
 | [_],i,_,h => by simp at h
 | a :: b :: l,0,hc,h => hc.1
 | a :: b :: l, i + 1, hc, h => by
  have := Chn.at (b :: l) i hc.2 (by simpa using h)
  exact this
theorem L0 {E:List (Nat × Nat)}{k a:Nat}(h:iR E k = (a:Int)):(k,a) ∈ E:=by
 unfold iR at h
 cases q : E.find? (fun e => e.1 == k) with
 | none => rw [q] at h;dsimp only at h;omega
 | some e =>
  rw [q] at h;dsimp only at h
  have h1 := List.find?_some q
  have h2 := List.mem_of_find?_eq_some q
  simp only [beq_iff_eq] at h1
  have e2 : e = (k,a) := by rw [← h1,show a = e.2 by omega]
  rw [← e2]; exact h2
theorem EW {pts:List Pnt}{f:Nat}{E:List (Nat × Nat)}(I:BI pts f E):∀ n R x,R.length ≤ n → R <:+ E.reverse → x ∈ R.map (·.1) → Chn pts (C3 f R x) ∧ ∃ T,C3 f R x = T ++ [x]
 | n, R, x, hn, hR, hx => by
  obtain ⟨a,R',h1,h2,h3,h4,h5⟩ := mU I hR hx
  have he := I.ed _ (L0 h1)
  rw [h4]
  refine ⟨?_,_,rfl⟩
  unfold Oi
  by_cases e : a = f
  ·rw [if_pos e]; subst e;exact ⟨he,trivial⟩
  ·rw [if_neg e]
   cases n with
   | zero => omega
   | succ n =>
    obtain ⟨hc,T,hT⟩ := EW I n R' a (by omega) h2 (h5 e)
    rw [hT] at hc ⊢
    exact Chn.snoc he T hc
section
variable {pts : List Pnt} (w : ∀ i,i < pts.length → ∀ k ∈ pts[i]!.next,0 ≤ k ∧ k < pts.length)
include w
theorem Ak {f x:Nat}(hf:f < pts.length) (h:eH pts f x ≠ []):Chn pts (eH pts f x) ∧ ∃ T,eH pts f x = f :: (T ++ [x]):=by
 have h0 : 0 ≤ iR (mK pts f) x := (gO w hf x).2 ((j5 w hf).1 h)
 refine ⟨?_,qM w hf h0⟩
 unfold eH
 rw [if_pos h0]
 exact (EW (oM w hf _) _ _ _ (Nat.le_refl _) (List.suffix_refl _) (by rw [List.map_reverse,List.mem_reverse]; exact fB.1 h0)).1
theorem tI (r:Rch pts){t:Nat}(ht:t < pts.length):Chn pts (rC pts t) ∧ ∃ A,rC pts t = A ++ [t]:=by
 unfold rC
 by_cases h : t = 0
 ·rw [if_pos h]; subst h;exact ⟨trivial,[],rfl⟩
 ·rw [if_neg h]
  obtain ⟨h1,T,e⟩ := Ak w (f := 0) (x := t) (by omega) ((j5 w (by omega)).2 (r.wy t t (Nat.le_refl _) (by omega) ht))
  exact ⟨h1,0 :: T,by rw [e]; rfl⟩
theorem KL (r:Rch pts){l a u:Nat}(ha:a < pts.length) (hl:l < pts.length) (h2:eH pts l a ≠ []) (h3:eH pts a u ≠ []):Chn pts (rC pts l ++ (eH pts l a).drop 1 ++ (eH pts a u).drop 1):=by
 obtain ⟨c1,A,e1⟩ := tI w r hl
 obtain ⟨c2,B,e2⟩ := Ak w hl h2
 obtain ⟨c3,C,e3⟩ := Ak w ha h3
 rw [e1] at c1 ⊢
 rw [e2] at c2 ⊢
 rw [e3] at c3 ⊢
 have h4 := Chn.join c2 A c1
 have h5 : Chn pts ((A ++ [l] ++ B) ++ [a]) := by simpa using h4
 have h6 := Chn.join c3 _ h5
 simpa using h6
end
end Go.AL
namespace Go.AL
open Go.RowKit
section
variable {P : Program} {C : Ctx} {ι : Pl} {T : Nat → Option AV} {F : Nat → Prop} {H : Nat → Option (List AV)} {a : Act} {w : World} {o : Oper}
theorem By {bad:Nat → Prop}{zs:List Value}(h:zs.all (·.oneCell') = true):∀ n,RdL w bad ι (List.replicate n (zs.map AV.v)).flatten (List.replicate n zs).flatten
 | 0 => by simp [RdL]
 | n + 1 => by
  rw [List.replicate_succ,List.replicate_succ,List.flatten_cons,List.flatten_cons]
  exact RdL.append (sF h) (By h n)
theorem K5 (gh:HG C ι F H w){t el:TypeId}{x:Operand}{id off n e:Nat}{cs:List AV}{zs:List Value}
  (ho : o.op = .call ⟨.builtin .clear,#[x],#[t]⟩) (hx : Rd w (aL C.X ι H) ι (.own id off n e) (a.eval x)) (hd : o.dst = none)
  (ht : mI P t = some el) (he : fL P el = some e) (hz : oR P el = some zs) (hze : zs.length = e)
  (hH : H id = some cs) (h0 : 0 < n) (hl : off + n * e ≤ cs.length) :
  Ef P C ι F H a w o (.tup []) (dU H id (some (gW cs off (List.replicate n (zs.map AV.v)).flatten))) := by
 obtain ⟨i,z,h1,h2,h3,h4⟩ := oP hz
 have hu := iA ht
 have hsz := uM he h1
 simp only [Rd] at hx
 rcases hx with ⟨_,rfl,_⟩ | ⟨b,β,c,p1,p2,p3,p4⟩
 ·omega
 have hlen : ((List.replicate n (zs.map AV.v)).flatten).length = n * e := by
  rw [List.length_flatten]; simp [hze]
 obtain ⟨w',q1,q2,q3⟩ := Bw (P := P) gh hH p1 (off := off) (new := (List.replicate n (zs.map AV.v)).flatten) (by rw [hlen]; exact hl) (By h4 n)
 have hr : (Builtin.clear_ #[t] o.type #[a.eval x]).run P w = .ok (.tuple #[]) w' := by
  rw [p2]
  cases n with
  | zero => omega
  | succ n =>
   have hzc : (Builtin.zeroCells z.cells (n + 1)).toList = (List.replicate (n + 1) zs).flatten := by rw [mR,h3]
   simp [Builtin.clear_,bX hu,zeroValue,typeInfo,h1,h2,hzc,q1]
 refine ⟨.value (.tuple #[]),.tuple #[],ι,w',?_,.inl ⟨rfl,?_⟩,q2,q3⟩
 ·simp [execOp,ho,resolve,invoke,builtin,hr]
 ·simp only [Rd]; exact ⟨[],rfl,by simp [RdV]⟩
end
section
variable {P : Program} {N : Nat} {Q : Exit → AS → Prop} {all : Array Oper} {rest : List Oper} {ts : List (Nat × AV)} {hs : List (Nat × Option (List AV))} {n : Nat} {z0 : Lo} {md : Md}
variable {d : Nat} {ty : TypeId} {pos : String} {af : Array Edge}
theorem Kp {t el id off m e:Nat}{x:Operand}{cs cs':List AV}{zs:List Value}[ht:SlT P t el] [he:SzT P el e] [hz:ZrT P el zs]
  (hx : ev (lk ts) x = some (.own id off m e)) (hze : zs.length = e) (h0 : 0 < m) (hH : aT hs id = some cs) (hl : off + m * e ≤ cs.length)
  (hcs : gW cs off (List.replicate m (zs.map AV.v)).flatten = cs') {md' : Md} [hmd : MdA md (rO x ++ [.inr id]) [.inr id] md'] (kk : RW P N all Q md' rest ⟨ts,(id,some cs') :: hs,n,z0⟩) :
  RW P N all Q md (⟨none,.call ⟨.builtin .clear,#[x],#[t]⟩,ty,pos,af,none⟩ :: rest) ⟨ts,hs,n,z0⟩ := by
 subst hcs
 exact CZ (rs := rO x ++ [.inr id]) (ws := [(id, some (gW cs off (List.replicate m (zs.map AV.v)).flatten))]) (n' := n) (out := .tup []) rfl (fun _ h => by cases h) (Nat.le_refl n) (.inl rfl)
  (fun C ι F T H a w ag hF g gh => Fv (K5 gh rfl (bU g (ag.l.ev.trans hx)) rfl ht.pf he.pf hz.pf hze ((ag.r.h id (by simp)).trans hH) h0 hl)) (by
   show RW P N all Q (md.add (rO x ++ [.inr id]) [.inr id]) rest ⟨ts,(id,some (gW cs off (List.replicate m (zs.map AV.v)).flatten)) :: hs,n,z0⟩
   rw [hmd.pf]; exact kk)
end
end Go.AL
namespace Go.AL
section
variable {P : Program} {N : Nat} {Q : Exit → AS → Prop} {all : Array Oper} {rest : List Oper} {ts : List (Nat × AV)} {hs : List (Nat × Option (List AV))} {n : Nat} {z0 : Lo} {md : Md}
variable {d : Nat} {ty : TypeId} {pos : String} {af : Array Edge}
theorem xJ (w:World) (t el:TypeId) (hu:P.underlying t = some (.slice el)) (a:Option Addr) (m c:Nat):(binOp .eql t (.slice a m c) (.slice none 0 0)).run P w = .ok (.bool a.isNone) w:=by
 have h0 : ∀ d : Nat, (Op.equalIn (d + 1) t (.slice a m c) (.slice none 0 0)).run P w = .ok a.isNone w := fun d => by
  cases a <;> simp [Op.equalIn,bX hu]
 have h := h0 9999
 simp only [binOp]
 simp [Op.equal,Op.maxDepth,h]
theorem Cg {t t' el:TypeId}{x:Operand}{m:Nat}{cs:List AV}[ht:SlT P t el] (hx:ev (lk ts) x = some (.imm m cs)) (hN:Nat.blt d N = true)
  (kk : ∀ b : Bool,(b = true → m = 0) → RW P N all Q .txt rest ⟨(d,.v (.bool b)) :: ts,hs,n,z0⟩) : RW P N all Q .txt (⟨some d,.binOp .eql t x (.const (.slice none 0 0)) t',ty,pos,af,none⟩ :: rest) ⟨ts,hs,n,z0⟩ := by
 rintro C a w hCN ⟨h0,ι,g,gh⟩
 refine wpList_plain rfl (fun K hK => ?_)
 have h1 := bU g hx
 simp only [Rd] at h1
 obtain ⟨a',c,h2,h3⟩ := h1
 have hu := iA ht.pf
 have hb : a'.isNone = true → m = 0 := fun hn => by
  rcases h3 with h3 | ⟨b,o,_,rfl,_⟩
  ·exact h3
  ·cases hn
 have hg : (eqGuard .eql t x (.const (.slice none 0 0)) (.slice a' m c) (.slice none 0 0)).run P w = .ok () w := by simp [eqGuard]
 have hr : (execOp a.eval ⟨some d, .binOp .eql t x (.const (.slice none 0 0)) t', ty, pos, af, none⟩).run P w = .ok (.value (.bool a'.isNone)) w := by
  have e2 : a.eval (.const (.slice none 0 0)) = .slice none 0 0 := rfl
  simp only [execOp,h2,e2,Sem.run_bind,hg,Result.andThen_ok,xJ w t el hu,Sem.run_pure]
 simp only [Oper.wp,hr,Oper.upon]
 refine hK _ _ (kk a'.isNone hb C _ _ hCN ⟨h0,ι,?_,gh⟩)
 show TG C ι (lk ((d,AV.v (.bool a'.isNone)) :: ts)) _ _ _
 rw [iH]
 exact g.put (by have := cS hN;omega) (by simp [Rd])
end
theorem FV {α:Type}{f:α → List AV}{e:Nat}[h:FlT f e] {hs:List (Nat × Option (List AV))}{xs:List α}{i k n:Nat}(hH:aT hs i = some (flat f xs)) (hn:n = xs.length - k):sCells (aT hs) e (qR (.own i (0 + k * e) n e)) = some (n,flat f (xs.drop k)):=by
 show ((aT hs i).bind fun cs => if n * e ≤ (cs.drop (0 + k * e)).length then some (n,(cs.drop (0 + k * e)).take (n * e)) else none) = _
 rw [hH,Option.bind_some,Nat.zero_add]
 have h1 : (flat f xs).length = xs.length * e := aI f xs
 have h3 : (flat f xs).drop (k * e) = flat f (xs.drop k) := by
  have h4 : flat f xs = flat f (xs.take k) ++ flat f (xs.drop k) := by rw [cE,List.take_append_drop]
  have h5 : (flat f (xs.take k)).length = (xs.take k).length * e := aI f _
  by_cases hk : k ≤ xs.length
  ·rw [h4,← show (flat f (xs.take k)).length = k * e from by rw [h5,List.length_take]; congr 1;omega,List.drop_left]
  ·rw [List.drop_of_length_le (by rw [h1]; exact Nat.mul_le_mul_right _ (by omega)),List.drop_of_length_le (by omega)]; rfl
 rw [h3]
 have h2 : (flat f (xs.drop k)).length = (xs.length - k) * e := by rw [aI f (e := e),List.length_drop]
 rw [h2,hn,if_pos (Nat.le_refl _),List.take_of_length_le (by rw [h2]; exact Nat.le_refl _)]
theorem rH {T:Nat → Option AV}{x:Operand}{dd:Nat}{k:IntKind}{m:Int}{h:Nat}(hx:ev T x = some (.v (.int k m))) (e:m = (h:Int)):gA T (some x) dd = some h:=by
 simp only [gA,hx]; rw [if_pos (by omega)]; congr 1;omega
structure Tg where
 id : Int
 uq : Bool
 deriving Inhabited,DecidableEq
structure Cl where
 val : Int
 alive : Bool
 next : Int
 stk : List Tg
 deriving Inhabited,DecidableEq
structure Pt where
 cell : Int
 tag : Int
 deriving Inhabited,DecidableEq
structure Sl where
 set : Bool
 num : Int
 ptr : Pt
 deriving Inhabited,DecidableEq
def cD (t : Tg) : List AV := [iv t.id,bv t.uq]
def bO (c : Cl) : List AV := [iv c.val,bv c.alive,iv c.next,sl cD c.stk]
def dC (s : Sl) : List AV := [bv s.set,iv s.num,iv s.ptr.cell,iv s.ptr.tag]
instance : FlT cD 2:=⟨fun _ => rfl⟩
instance : FlT bO 4:=⟨fun _ => rfl⟩
instance : FlT dC 4:=⟨fun _ => rfl⟩
instance : FE cD (fun t => [iv t.id,bv t.uq]):=⟨fun _ => rfl⟩
instance : FE bO (fun c => [iv c.val,bv c.alive,iv c.next,sl cD c.stk]):=⟨fun _ => rfl⟩
instance : FE dC (fun s => [bv s.set,iv s.num,iv s.ptr.cell,iv s.ptr.tag]):=⟨fun _ => rfl⟩
instance (t : Tg) : Pur (cD t):=⟨rfl⟩
instance (c : Cl) : Pur (bO c):=⟨by show (true && (true && (true && ((sl cD c.stk).pur && true)))) = true;rw [bD]; rfl⟩
instance (s : Sl) : Pur (dC s):=⟨rfl⟩
abbrev R8 (t : Tg) : AV := .agg [iv t.id,bv t.uq]
abbrev Sd (c : Cl) : AV := .agg [iv c.val,bv c.alive,iv c.next,sl cD c.stk]
abbrev nS (p : Pt) : AV := .agg [iv p.cell,iv p.tag]
abbrev Ke (s : Sl) : AV := .agg [bv s.set,iv s.num,iv s.ptr.cell,iv s.ptr.tag]
structure OkC (c : Cl) : Prop where
 v : 0 ≤ c.val ∧ c.val ≤ 9
 n : 1 ≤ c.next ∧ c.next ≤ 1000
 l : 1 ≤ c.stk.length ∧ c.stk.length ≤ 200
 u : c.stk[0]!.uq = true
 i : ∀ t ∈ c.stk,0 ≤ t.id ∧ t.id < c.next
 d : (c.stk.map (·.id)).Nodup
structure OkM (m : List Cl) : Prop where
 l : m.length ≤ 200
 c : ∀ c ∈ m,OkC c
def cA (stk : List Tg) (id : Int) : Int := match stk.findIdx? (fun t => decide (t.id = id)) with | some k => k | none => -1
theorem eX (stk:List Tg) (id:Int):-1 ≤ cA stk id ∧ cA stk id < stk.length:=by
 unfold cA
 split
 ·rename_i k h
  obtain ⟨h1,_⟩ := List.findIdx?_eq_some_iff_getElem.1 h
  omega
 ·omega
theorem N3 {stk:List Tg}{id:Int}(h:0 ≤ cA stk id):stk[(cA stk id).toNat]!.id = id:=by
 unfold cA at h ⊢
 split
 ·rename_i k hk
  obtain ⟨h1,h2,_⟩ := List.findIdx?_eq_some_iff_getElem.1 hk
  rw [Int.toNat_natCast,aY _ _ h1]
  simpa using h2
 ·rename_i hk;rw [hk] at h;dsimp only at h;omega
theorem rI {stk:List Tg}{id:Int}:cA stk id < 0 ↔ ∀ t ∈ stk,t.id ≠ id:=by
 unfold cA
 split
 ·rename_i k hk
  obtain ⟨h1,h2,_⟩ := List.findIdx?_eq_some_iff_getElem.1 hk
  refine ⟨fun h => by omega,fun h => ?_⟩
  exact absurd (by simpa using h2) (h _ (List.getElem_mem h1))
 ·rename_i hk
  rw [List.findIdx?_eq_none_iff] at hk
  exact ⟨fun _ t ht => by simpa using hk t ht,fun _ => by omega⟩
def gV (stk : List Tg) (k : Nat) (wr : Bool) : List Tg := if wr = true then stk.take (k + 1) else stk.take (k + 1) ++ (stk.drop (k + 1)).filter (fun t => !t.uq)
def a8 (m : List Cl) (x : Pt) (wr : Bool) : Int :=
 if ¬ (0 ≤ x.cell ∧ x.cell < m.length) then 4
 else if m[x.cell.toNat]!.alive = false then 1
 else if cA m[x.cell.toNat]!.stk x.tag < 0 then 2
 else if wr = true ∧ m[x.cell.toNat]!.stk[(cA m[x.cell.toNat]!.stk x.tag).toNat]!.uq = false then 3
 else 0
def uL (c : Cl) (x : Pt) (wr : Bool) : Cl := { c with stk := gV c.stk (cA c.stk x.tag).toNat wr }
def dQ (m : List Cl) (x : Pt) (wr : Bool) : List Cl := if a8 m x wr = 0 then m.set x.cell.toNat (uL m[x.cell.toNat]! x wr) else m
def pC (m : List Cl) (x : Pt) : Int := if a8 m x false = 0 then m[x.cell.toNat]!.val else 0
def yR (m : List Cl) (x : Pt) (v : Int) : Int := if 0 ≤ v ∧ v ≤ 9 then a8 m x true else 4
def yL (m : List Cl) (x : Pt) (v : Int) : List Cl := if yR m x v = 0 then m.set x.cell.toNat { uL m[x.cell.toNat]! x true with val := v } else m
def k6 (m : List Cl) (x : Pt) : List Cl := if a8 m x true = 0 then m.set x.cell.toNat { uL m[x.cell.toNat]! x true with alive := false } else m
def Gz (c : Cl) : Prop := c.stk.length = 200 ∨ c.next = 1000
instance (c : Cl) : Decidable (Gz c) := by unfold Gz;infer_instance
def m5 (m : List Cl) (x : Pt) (u : Bool) : Int := if a8 m x u = 0 then (if Gz (uL m[x.cell.toNat]! x u) then 4 else 0) else a8 m x u
def psh (c : Cl) (u : Bool) : Cl := { c with stk := c.stk ++ [⟨c.next,u⟩],next := c.next + 1 }
def nA (m : List Cl) (x : Pt) (u : Bool) : List Cl := if m5 m x u = 0 then m.set x.cell.toNat (psh (uL m[x.cell.toNat]! x u) u) else m
def sZ (m : List Cl) (x : Pt) (u : Bool) : Pt := if m5 m x u = 0 then ⟨x.cell,m[x.cell.toNat]!.next⟩ else ⟨0,0⟩
def xC (v : Int) : Cl := ⟨v,true,1,[⟨0,true⟩]⟩
theorem tchS_sub {stk:List Tg}{k:Nat}{wr:Bool}:(gV stk k wr).Sublist stk:=by
 unfold gV
 split
 ·exact List.take_sublist _ _
 ·have h := List.Sublist.append (List.Sublist.refl (stk.take (k + 1))) (List.filter_sublist (l := stk.drop (k + 1)) (p := fun t => !t.uq))
  rwa [List.take_append_drop] at h
theorem Hr {stk:List Tg}{k:Nat}{wr:Bool}(h:0 < stk.length):(gV stk k wr)[0]! = stk[0]! ∧ 0 < (gV stk k wr).length:=by
 cases stk with
 | nil => simp at h
 | cons a l =>
  unfold gV
  split <;> simp
theorem OkC.tch {c:Cl}(h:OkC c) (x:Pt) (wr:Bool):OkC (uL c x wr):=by
 have hs := tchS_sub (stk := c.stk) (k := (cA c.stk x.tag).toNat) (wr := wr)
 have hh := Hr (k := (cA c.stk x.tag).toNat) (wr := wr) (stk := c.stk) (by have := h.l;omega)
 refine ⟨h.v,h.n,⟨hh.2,Nat.le_trans hs.length_le h.l.2⟩,?_,fun t ht => h.i t (hs.subset ht),(hs.map _).nodup h.d⟩
 show (gV c.stk (cA c.stk x.tag).toNat wr)[0]!.uq = true
 rw [hh.1]; exact h.u
theorem OkC.psh {c:Cl}(h:OkC c) (u:Bool) (hf:¬ Gz c):OkC (psh c u):=by
 have hl := h.l
 have hn := h.n
 unfold Gz at hf
 refine ⟨h.v,by show 1 ≤ c.next + 1 ∧ c.next + 1 ≤ 1000;omega,by show 1 ≤ (c.stk ++ [_]).length ∧ (c.stk ++ [_]).length ≤ 200;rw [List.length_append,List.length_singleton]; omega,?_,fun t ht => ?_,?_⟩
 ·show (c.stk ++ [_])[0]!.uq = true
  have h1 := h.u
  rw [aY _ _ (by omega)] at h1
  rw [aY _ _ (by rw [List.length_append]; omega),List.getElem_append_left (by omega)]; exact h1
 ·rcases List.mem_append.1 ht with ht | ht
  ·have := h.i t ht;show 0 ≤ t.id ∧ t.id < c.next + 1;omega
  ·rw [List.mem_singleton] at ht;subst ht;show 0 ≤ c.next ∧ c.next < c.next + 1;omega
 ·show ((c.stk ++ [_]).map _).Nodup
  rw [List.map_append,List.nodup_append]
  refine ⟨h.d,by simp,fun a ha b hb => ?_⟩
  simp only [List.map_cons,List.map_nil,List.mem_singleton] at hb
  obtain ⟨t,ht,rfl⟩ := List.mem_map.1 ha
  have := h.i t ht
  omega
theorem OkC.nw {v:Int}(h:0 ≤ v ∧ v ≤ 9):OkC (xC v) := ⟨h,⟨by show (1:Int) ≤ 1;decide,by show (1:Int) ≤ 1000;decide⟩,⟨by show 1 ≤ 1;decide,by show 1 ≤ 200;decide⟩,rfl,by simp [xC],by simp [xC]⟩
theorem OkM.set {m:List Cl}(h:OkM m){k:Nat}{c:Cl}(hc:OkC c):OkM (m.set k c) :=
 ⟨by rw [List.length_set]; exact h.l,fun x hx => (List.mem_or_eq_of_mem_set hx).elim (h.c x) (fun e => e ▸ hc)⟩
theorem OkM.at {m:List Cl}(h:OkM m){k:Nat}(hk:k < m.length):OkC m[k]! := h.c _ (aS _ _ hk)
theorem dM {m:List Cl}{x:Pt}{wr:Bool}(h:a8 m x wr ≠ 4):0 ≤ x.cell ∧ x.cell < m.length ∧ x.cell.toNat < m.length:=by
 unfold a8 at h
 split at h
 ·exact absurd rfl h
 ·omega
theorem zG {m:List Cl}{x:Pt}{wr:Bool}(h:a8 m x wr = 0):0 ≤ x.cell ∧ x.cell < m.length ∧ x.cell.toNat < m.length := dM (by rw [h]; decide)
theorem OkM.tch {m:List Cl}(h:OkM m) (x:Pt) (wr:Bool):OkM (dQ m x wr):=by
 unfold dQ;split
 ·rename_i hk;exact h.set ((h.at (zG hk).2.2).tch x wr)
 ·exact h
theorem OkM.wr {m:List Cl}(h:OkM m) (x:Pt) (v:Int):OkM (yL m x v):=by
 unfold yL
 by_cases hk : yR m x v = 0
 ·rw [if_pos hk]
  unfold yR at hk
  by_cases hv : 0 ≤ v ∧ v ≤ 9
  ·rw [if_pos hv] at hk
   have h1 := (h.at (zG hk).2.2).tch x true
   exact h.set ⟨hv,h1.n,h1.l,h1.u,h1.i,h1.d⟩
  ·rw [if_neg hv] at hk;cases hk
 ·rw [if_neg hk]; exact h
theorem OkM.fr {m:List Cl}(h:OkM m) (x:Pt):OkM (k6 m x):=by
 unfold k6;split
 ·rename_i hk
  have h1 := (h.at (zG hk).2.2).tch x true
  exact h.set ⟨h1.v,h1.n,h1.l,h1.u,h1.i,h1.d⟩
 ·exact h
theorem OkM.ln {m:List Cl}(h:OkM m) (x:Pt) (u:Bool):OkM (nA m x u):=by
 unfold nA
 by_cases hk : m5 m x u = 0
 ·rw [if_pos hk]
  unfold m5 at hk
  by_cases h0 : a8 m x u = 0
  ·rw [if_pos h0] at hk
   by_cases hf : Gz (uL m[x.cell.toNat]! x u)
   ·rw [if_pos hf] at hk;cases hk
   ·exact h.set (((h.at (zG h0).2.2).tch x u).psh u hf)
  ·rw [if_neg h0] at hk;exact absurd hk h0
 ·rw [if_neg hk]; exact h
theorem OkM.nw {m:List Cl}(h:OkM m){v:Int}(hv:0 ≤ v ∧ v ≤ 9) (hl:m.length < 200):OkM (m ++ [xC v]) :=
 ⟨by rw [List.length_append,List.length_singleton]; omega,fun c hc => (List.mem_append.1 hc).elim (h.c c) (fun h => by rw [List.mem_singleton.1 h]; exact OkC.nw hv)⟩
def gU (pts : List Pnt) (a : Nat) (cs : List Int) : Nat × List Int :=
 if pts[a]!.next.length = 2 then
  match cs with
  | [] => ((pts[a]!.next[1]!).toNat,[])
  | c :: cs => ((pts[a]!.next[(c % 2).toNat]!).toNat,cs)
 else ((pts[a]!.next[0]!).toNat,cs)
def e6 (pts : List Pnt) : Nat → Nat → List Int → List Nat × Bool
 | 0,a,_ => if pts[a]!.op = 11 then ([a],true) else ([],false)
 | n + 1,a,cs => if pts[a]!.op = 11 then ([a],true) else (a :: (e6 pts n (gU pts a cs).1 (gU pts a cs).2).1,(e6 pts n (gU pts a cs).1 (gU pts a cs).2).2)
structure Mc where
 slots : List Sl
 cells : List Cl
 read : List Int
 deriving Inhabited
def lN : Sl := ⟨false,0,⟨0,0⟩⟩
def dZ (k : Int) : Int := if k = 1 then 3 else 4
def mE (k : Int) : Int := if k = 0 then -1 else dZ k
def bS (ts : List Int) (s : Mc) (v : Nat) (x : Sl) : Mc × Int :=
 if ts[v]! = 2 ∧ s.slots[v]!.set = true then (⟨s.slots.set v x,k6 s.cells s.slots[v]!.ptr,s.read⟩,mE (a8 s.cells s.slots[v]!.ptr true))
 else (⟨s.slots.set v x,s.cells,s.read⟩,-1)
def cG (ts : List Int) (s : Mc) (x : Pnt) : Bool := (List.range ts.length).any fun v => decide (aV ts x v ≠ 0) && !s.slots[v]!.set
def cL (ts : List Int) : Nat → Nat → Mc → Mc × Int
 | 0,_,s => (s,0)
 | n + 1, v, s => if ts[v]! = 2 ∧ s.slots[v]!.set = true then
   (if a8 s.cells s.slots[v]!.ptr true = 0 then cL ts n (v + 1) ⟨s.slots.set v lN,k6 s.cells s.slots[v]!.ptr,s.read⟩ else (⟨s.slots,k6 s.cells s.slots[v]!.ptr,s.read⟩,dZ (a8 s.cells s.slots[v]!.ptr true)))
  else cL ts n (v + 1) s
def cM (ts : List Int) (s : Mc) (x : Pnt) : Mc × Int :=
 if x.op = 1 then bS ts s x.x.toNat ⟨true,x.n,⟨0,0⟩⟩
 else if x.op = 2 then (if s.cells.length = 200 then (s,1) else bS ts ⟨s.slots,s.cells ++ [xC x.n],s.read⟩ x.x.toNat ⟨true,0,⟨s.cells.length,0⟩⟩)
 else if x.op = 3 then bS ts (if wZ ts[x.y.toNat]! = true then ⟨s.slots.set x.y.toNat lN,s.cells,s.read⟩ else s) x.x.toNat s.slots[x.y.toNat]!
 else if x.op = 4 ∨ x.op = 5 then
  (if m5 s.cells s.slots[x.y.toNat]!.ptr (decide (x.op = 5)) = 0 then bS ts ⟨s.slots, nA s.cells s.slots[x.y.toNat]!.ptr (decide (x.op = 5)), s.read⟩ x.x.toNat ⟨true, 0, sZ s.cells s.slots[x.y.toNat]!.ptr (decide (x.op = 5))⟩
   else (s,dZ (m5 s.cells s.slots[x.y.toNat]!.ptr (decide (x.op = 5)))))
 else if x.op = 6 then
  (if a8 s.cells s.slots[x.y.toNat]!.ptr false = 0 then bS ts ⟨s.slots, dQ s.cells s.slots[x.y.toNat]!.ptr false, s.read ++ [pC s.cells s.slots[x.y.toNat]!.ptr]⟩ x.x.toNat ⟨true, pC s.cells s.slots[x.y.toNat]!.ptr, ⟨0, 0⟩⟩
   else (s,dZ (a8 s.cells s.slots[x.y.toNat]!.ptr false)))
 else if x.op = 7 then (⟨s.slots,yL s.cells s.slots[x.x.toNat]!.ptr s.slots[x.y.toNat]!.num,s.read⟩,mE (yR s.cells s.slots[x.x.toNat]!.ptr s.slots[x.y.toNat]!.num))
 else if x.op = 8 then (⟨s.slots.set x.x.toNat lN,k6 s.cells s.slots[x.x.toNat]!.ptr,s.read⟩,mE (a8 s.cells s.slots[x.x.toNat]!.ptr true))
 else if x.op = 11 then cL ts ts.length 0 s
 else (s,-1)
def k7 (ts : List Int) (pts : List Pnt) : List Nat → Mc → Nat → Mc × Int × Nat
 | [],s,last => (s,1,last)
 | a :: l, s, _ => if cG ts s pts[a]! = true then (s, 2, a)
  else if (cM ts s pts[a]!).2 = -1 then k7 ts pts l (cM ts s pts[a]!).1 a
  else ((cM ts s pts[a]!).1,(cM ts s pts[a]!).2,a)
def mc0 (nt : Nat) : Mc := ⟨List.replicate nt lN,[],[]⟩
def jJ (ts : List Int) (pts : List Pnt) (cs : List Int) (most : Nat) : Mc × Int × Nat := k7 ts pts (e6 pts most 0 cs).1 (mc0 ts.length) 0
structure OkS (nt : Nat) (s : Mc) : Prop where
 m : OkM s.cells
 l : s.slots.length = nt
theorem OkS.put {ts:List Int}{nt:Nat}{s:Mc}(h:OkS nt s) (v:Nat) (x:Sl):OkS nt (bS ts s v x).1:=by
 unfold bS;split
 ·exact ⟨h.m.fr _,by show (s.slots.set v x).length = nt;rw [List.length_set]; exact h.l⟩
 ·exact ⟨h.m,by show (s.slots.set v x).length = nt;rw [List.length_set]; exact h.l⟩
theorem OkS.fin {ts:List Int}{nt:Nat}:∀ n v (s:Mc),OkS nt s → OkS nt (cL ts n v s).1
 | 0,_,_,h => h
 | n + 1, v, s, h => by
  unfold cL;split
  ·split
   ·exact OkS.fin n _ _ ⟨h.m.fr _,by show (s.slots.set v lN).length = nt;rw [List.length_set]; exact h.l⟩
   ·exact ⟨h.m.fr _,h.l⟩
  ·exact OkS.fin n _ _ h
structure PtN (x : Pnt) : Prop where
 n : x.op = 2 → 0 ≤ x.n ∧ x.n ≤ 9
theorem OkS.do {ts:List Int}{nt:Nat}{s:Mc}(h:OkS nt s){x:Pnt}(hx:PtN x):OkS nt (cM ts s x).1:=by
 have hl : ∀ (v : Nat) (y : Sl),(s.slots.set v y).length = nt := fun v y => by rw [List.length_set]; exact h.l
 unfold cM
 split
 ·exact h.put _ _
 split
 ·rename_i h2
  split
  ·exact h
  ·rename_i h3
   refine OkS.put ?_ _ _
   exact ⟨h.m.nw (hx.n h2) (by have := h.m.l;omega),h.l⟩
 split
 ·split
  ·refine OkS.put ?_ _ _
   exact ⟨h.m,hl _ _⟩
  ·exact h.put _ _
 split
 ·split
  ·refine OkS.put ?_ _ _
   exact ⟨h.m.ln _ _,h.l⟩
  ·exact h
 split
 ·split
  ·refine OkS.put ?_ _ _
   exact ⟨h.m.tch _ _,h.l⟩
  ·exact h
 split
 ·exact ⟨h.m.wr _ _,h.l⟩
 split
 ·exact ⟨h.m.fr _,hl _ _⟩
 split
 ·exact OkS.fin _ _ _ h
 ·exact h
theorem OkS.mc0 (nt:Nat):OkS nt (mc0 nt) := ⟨⟨by simp [Go.AL.mc0],by simp [Go.AL.mc0]⟩,by simp [Go.AL.mc0]⟩
theorem OkS.run {ts:List Int}{pts:List Pnt}{nt:Nat}(hp:∀ a:Nat,PtN pts[a]!):∀ (l:List Nat) (s:Mc) (last:Nat),OkS nt s → OkS nt (k7 ts pts l s last).1
 | [],_,_,h => h
 | a :: l, s, _, h => by
  unfold k7;split
  ·exact h
  ·split
   ·exact OkS.run hp l _ _ (h.do (hp a))
   ·exact h.do (hp a)
theorem DS (k:Int):mE k = -1 ∨ mE k = 3 ∨ mE k = 4 := by unfold mE dZ;split;exact .inl rfl;split;exact .inr (.inl rfl);exact .inr (.inr rfl)
theorem tV (k:Int):dZ k = 3 ∨ dZ k = 4 := by unfold dZ;split;exact .inl rfl;exact .inr rfl
theorem ET (ts:List Int) (s:Mc) (v:Nat) (x:Sl):(bS ts s v x).2 = -1 ∨ (bS ts s v x).2 = 3 ∨ (bS ts s v x).2 = 4:=by
 unfold bS;split
 ·exact DS _
 ·exact .inl rfl
theorem OO {ts:List Int}{s:Mc}{x:Pnt}(h:x.op ≠ 11):(cM ts s x).2 = -1 ∨ (cM ts s x).2 = 1 ∨ (cM ts s x).2 = 3 ∨ (cM ts s x).2 = 4:=by
 have p := fun s v y => ET ts s v y
 have p' : ∀ s v y, (bS ts s v y).2 = -1 ∨ (bS ts s v y).2 = 1 ∨ (bS ts s v y).2 = 3 ∨ (bS ts s v y).2 = 4 := fun s v y => by
  rcases p s v y with h|h|h
  ·exact .inl h
  ·exact .inr (.inr (.inl h))
  ·exact .inr (.inr (.inr h))
 have g : ∀ k, mE k = -1 ∨ mE k = 1 ∨ mE k = 3 ∨ mE k = 4 := fun k => by
  rcases DS k with h|h|h
  ·exact .inl h
  ·exact .inr (.inr (.inl h))
  ·exact .inr (.inr (.inr h))
 have e : ∀ k,dZ k = -1 ∨ dZ k = 1 ∨ dZ k = 3 ∨ dZ k = 4 := fun k => .inr (.inr (tV k))
 unfold cM
 rw [if_neg h]
 split
 ·exact p' _ _ _
 split
 ·split
  ·exact .inr (.inl rfl)
  ·exact p' _ _ _
 split
 ·exact p' _ _ _
 split
 ·split
  ·exact p' _ _ _
  ·exact e _
 split
 ·split
  ·exact p' _ _ _
  ·exact e _
 split
 ·exact g _
 split
 ·exact g _
 exact .inl rfl
theorem zP (ts:List Int):∀ n v (s:Mc),(cL ts n v s).2 = 0 ∨ (cL ts n v s).2 = 3 ∨ (cL ts n v s).2 = 4
 | 0,_,_ => .inl rfl
 | n + 1, v, s => by
  unfold cL;split
  ·split
   ·exact zP ts n _ _
   ·exact .inr (tV _)
  ·exact zP ts n _ _
theorem JG {ts:List Int}{s:Mc}{x:Pnt}(h:x.op = 11):cM ts s x = cL ts ts.length 0 s:=by
 unfold cM;simp [h]
theorem tB (m:List Cl) (x:Pt):(k6 m x).length = m.length := by unfold k6;split <;> simp
theorem pX (m:List Cl) (x:Pt) (b:Bool):(dQ m x b).length = m.length := by unfold dQ;split <;> simp
theorem Np (m:List Cl) (x:Pt) (b:Bool):(nA m x b).length = m.length := by unfold nA;split <;> simp
theorem Ly (m:List Cl) (x:Pt) (v:Int):(yL m x v).length = m.length := by unfold yL;split <;> simp
theorem G4 (ts:List Int) (s:Mc) (v:Nat) (x:Sl):(bS ts s v x).1.cells.length = s.cells.length:=by
 unfold bS;split
 ·exact tB _ _
 ·rfl
theorem qV (ts:List Int):∀ n v (s:Mc),(cL ts n v s).1.cells.length = s.cells.length
 | 0,_,_ => rfl
 | n + 1, v, s => by
  unfold cL;split
  ·split
   ·rw [qV ts n]; exact tB _ _
   ·exact tB _ _
  ·exact qV ts n _ _
theorem KN (ts:List Int) (s:Mc) (x:Pnt):(cM ts s x).1.cells.length ≤ s.cells.length + 1:=by
 have p : ∀ s' v y,s'.cells.length ≤ s.cells.length + 1 → (bS ts s' v y).1.cells.length ≤ s.cells.length + 1 := fun s' v y h => by rw [G4]; exact h
 unfold cM
 split
 ·exact p _ _ _ (Nat.le_succ _)
 split
 ·split
  ·exact Nat.le_succ _
  ·refine p _ _ _ ?_; show (s.cells ++ [_]).length ≤ _; simp
 split
 ·split
  ·exact p _ _ _ (Nat.le_succ _)
  ·exact p _ _ _ (Nat.le_succ _)
 split
 ·split
  ·refine p _ _ _ ?_; show (nA _ _ _).length ≤ _; rw [Np]; exact Nat.le_succ _
  ·exact Nat.le_succ _
 split
 ·split
  ·refine p _ _ _ ?_; show (dQ _ _ _).length ≤ _; rw [pX]; exact Nat.le_succ _
  ·exact Nat.le_succ _
 split
 ·show (yL _ _ _).length ≤ _; rw [Ly]; exact Nat.le_succ _
 split
 ·show (k6 _ _).length ≤ _; rw [tB]; exact Nat.le_succ _
 split
 ·rw [qV]; exact Nat.le_succ _
 ·exact Nat.le_succ _
structure PtA (ts : List Int) (x : Pnt) : Prop where
 n : x.op = 1 ∨ x.op = 2 → 0 ≤ x.n ∧ x.n ≤ 9
 t1 : x.op = 1 → ts[x.x.toNat]! = 1
 t2 : x.op = 2 ∨ x.op = 8 → ts[x.x.toNat]! = 2
 t3 : x.op = 3 → ts[x.x.toNat]! = ts[x.y.toNat]! ∧ x.x ≠ x.y
 t4 : x.op = 4 → ts[x.x.toNat]! = 3 ∧ x.x ≠ x.y ∧ 2 ≤ ts[x.y.toNat]!
 t5 : x.op = 5 → ts[x.x.toNat]! = 4 ∧ x.x ≠ x.y ∧ (ts[x.y.toNat]! = 2 ∨ ts[x.y.toNat]! = 4)
 t6 : x.op = 6 → ts[x.x.toNat]! = 1 ∧ 2 ≤ ts[x.y.toNat]!
 t7 : x.op = 7 → (ts[x.x.toNat]! = 2 ∨ ts[x.x.toNat]! = 4) ∧ ts[x.y.toNat]! = 1
theorem PtA.no {ts:List Int}{x:Pnt}(h:9 ≤ x.op):PtA ts x := ⟨fun e => by omega,fun e => by omega,fun e => by omega,fun e => by omega,fun e => by omega,fun e => by omega,fun e => by omega,fun e => by omega⟩
theorem Eh {ts:List Int}{s:Stmt}(h:c6 ts s = true):s.op ≤ 8:=by
 unfold c6 at h
 dsimp only at h
 apply Classical.byContradiction
 intro e
 rw [if_neg (by omega),if_neg (by omega)] at h
 split at h
 ·cases h
 ·rw [if_neg (by omega),if_neg (by omega),if_neg (by omega),if_neg (by omega),if_neg (by omega),if_neg (by omega)] at h;cases h
theorem Kf {ts:List Int}(s:Stmt) (h:c6 ts s = true):PtA ts ⟨s.op,s.x,s.y,s.n,[]⟩:=by
 have g : ∀ v,0 < fG ts v → fG ts v = ts[v.toNat]! := fun v => DA
 have gx := g s.x
 have gy := g s.y
 unfold c6 at h
 dsimp only at h
 constructor <;> dsimp only <;> intro e
 case n => rcases e with e|e <;> simp [e] at h <;> omega
 case t1 => simp [e] at h;rw [← gx (by omega)]; omega
 case t2 => rcases e with e|e <;> simp [e] at h <;> (rw [← gx (by omega)]; omega)
 case t3 => simp [e] at h;rw [← gx (by omega),← gy (by omega)]; exact ⟨h.2.1,h.2.2.2⟩
 case t4 => simp [e] at h;rw [← gx (by omega),← gy (by omega)]; exact ⟨h.2.1,h.2.2.2,h.2.2.1⟩
 case t5 => simp [e] at h;rw [← gx (by omega),← gy (by omega)]; exact ⟨h.2.1,h.2.2.2,h.2.2.1⟩
 case t6 => simp [e] at h;rw [← gx (by omega),← gy (by omega)]; exact ⟨h.2.1,h.2.2⟩
 case t7 => simp [e] at h;rw [← gx (by omega),← gy (by omega)]; exact ⟨h.2.1,h.2.2⟩
mutual
theorem Q5 {ts:List Int}:∀ (s:Stmt) (d b:Nat),sV ts d s = true → ∀ x ∈ wR b s,PtA ts x ∧ x.op ≠ 11 ∧ 0 < x.next.length
 | .mk op x y n th el, d, b, h => by
  simp only [sV] at h
  split at h
  ·rename_i hop
   simp only [Bool.and_eq_true] at h
   have hs := Kf _ h.2
   have ho := Eh h.2
   simp only [Stmt.op,Stmt.x,Stmt.y,Stmt.n] at hs ho
   simp only [wR,hop.1,hop.2,if_false,List.mem_singleton]
   rintro z rfl
   exact ⟨⟨hs.n,hs.t1,hs.t2,hs.t3,hs.t4,hs.t5,hs.t6,hs.t7⟩,by dsimp only;omega,by simp⟩
  ·rename_i hop
   cases d with
   | zero => cases h
   | succ d =>
    simp only [Bool.and_eq_true,decide_eq_true_eq] at h
    obtain ⟨⟨⟨_,_⟩,h1⟩,h2⟩ := h
    by_cases h9 : op = 9
    ·subst h9
     simp only [wR,if_true,List.mem_append,List.mem_singleton]
     rintro z (((rfl|hz)|rfl)|hz)
     ·exact ⟨PtA.no (by simp),by simp,by simp⟩
     ·exact vH th d (b + 1) h1 z hz
     ·exact ⟨PtA.no (by simp),by simp,by simp⟩
     ·exact vH el d (b + 2 + dB th) h2 z hz
    ·have h10 : op = 10 := by omega
     subst h10
     simp only [wR,if_true,show ((10 : Int) = 9) = False by simp,if_false,List.mem_append,List.mem_singleton]
     rintro z ((rfl|hz)|rfl)
     ·exact ⟨PtA.no (by simp),by simp,by simp⟩
     ·exact vH th d (b + 1) h1 z hz
     ·exact ⟨PtA.no (by simp),by simp,by simp⟩
theorem vH {ts:List Int}:∀ (l:List Stmt) (d b:Nat),okL ts d l = true → ∀ x ∈ fS b l,PtA ts x ∧ x.op ≠ 11 ∧ 0 < x.next.length
 | [],d,b,h => by simp [fS]
 | s :: l, d, b, h => by
  simp only [okL,Bool.and_eq_true] at h
  simp only [fS,List.mem_append]
  rintro x (hx|hx)
  ·exact Q5 s d b h.1 x hx
  ·exact vH l d (b + pD s) h.2 x hx
end
structure WA (ts : List Int) (pts : List Pnt) : Prop where
 a : ∀ i,i < pts.length → PtA ts pts[i]!
 e : ∀ i,i < pts.length → (pts[i]!.op = 11 ↔ i + 1 = pts.length)
 n : ∀ i,i < pts.length → pts[i]!.op ≠ 11 → 0 < pts[i]!.next.length
theorem WA.of_valid {p:Prg}(h:bE p = true):WA p.types (aD p):=by
 unfold bE at h
 simp only [Bool.and_eq_true,decide_eq_true_eq] at h
 obtain ⟨⟨_,hl⟩,_⟩ := h
 have hlen := j6 p
 have hpl := bV p.body 0
 have lo : ∀ i, i + 1 < (aD p).length → (aD p)[i]! ∈ fS 0 p.body := fun i hi => by
  have h1 : i < (fS 0 p.body).length := by omega
  unfold aD
  rw [aY _ _ (by rw [List.length_append]; omega),List.getElem_append_left h1]
  exact List.getElem_mem h1
 have hi : ∀ i, i + 1 = (aD p).length → (aD p)[i]! = ⟨11, 0, 0, 0, []⟩ := fun i hi => by
  have h1 : i = (fS 0 p.body).length := by omega
  unfold aD
  rw [aY _ _ (by rw [List.length_append,List.length_singleton]; omega)]
  simp [h1]
 refine ⟨fun i h => ?_,fun i h => ⟨fun e => ?_,fun e => by rw [hi i e]⟩,fun i h ne => ?_⟩
 ·by_cases q : i + 1 < (aD p).length
  ·exact (vH p.body 4 0 hl _ (lo i q)).1
  ·rw [hi i (by omega)]; exact PtA.no (by simp)
 ·by_cases q : i + 1 < (aD p).length
  ·exact absurd e (vH p.body 4 0 hl _ (lo i q)).2.1
  ·omega
 ·by_cases q : i + 1 < (aD p).length
  ·exact (vH p.body 4 0 hl _ (lo i q)).2.2
  ·exact absurd (by rw [hi i (by omega)]) ne
theorem kO {xs:List Sl}{X:Int}(y:Sl){v:Nat}(hX:0 ≤ X ∧ X < xs.length) (hv:v < xs.length):(xs.set X.toNat y)[v]! = if X = (v:Int) then y else xs[v]!:=by
 rw [aW]
 by_cases h : X = (v : Int)
 ·rw [if_pos h,if_pos ⟨by omega,hv⟩]
 ·rw [if_neg h,if_neg (by omega)]
theorem jP (ts:List Int) (s:Mc) (v:Nat) (x:Sl):(bS ts s v x).1.slots = s.slots.set v x:=by
 unfold bS;split <;> rfl
theorem Fb {ts:List Int}{s:Mc}{x:Pnt}(h:cG ts s x = false){v:Nat}(hv:v < ts.length) (hu:aV ts x v ≠ 0):s.slots[v]!.set = true:=by
 unfold cG at h
 rw [List.any_eq_false] at h
 have h1 := h v (List.mem_range.2 hv)
 rw [decide_eq_true hu,Bool.true_and] at h1
 simpa using h1
theorem Ja {t:Int}:wZ t = true ↔ t = 2 ∨ t = 4 := by unfold wZ;simp
theorem Kb {ts:List Int}{s:Mc}{x:Pnt}(hl:s.slots.length = ts.length) (hu:cG ts s x = false) (A:PtA ts x) (hop:1 ≤ x.op ∧ x.op ≠ 11) (hx:x.op ≤ 8 → 0 ≤ x.x ∧ x.x < ts.length) (hy:3 ≤ x.op → x.op ≤ 7 → 0 ≤ x.y ∧ x.y < ts.length) (hgo:(cM ts s x).2 = -1) :
  ∃ y : Sl,y.set = true ∧ ∀ v,v < ts.length → (cM ts s x).1.slots[v]! = if aQ x = (v : Int) then y else if aV ts x v = 2 then lN else s.slots[v]! := by
 have hk : ∀ k,dZ k ≠ -1 := fun k => by rcases tV k with h|h <;> rw [h] <;> decide
 unfold cM at hgo ⊢
 by_cases h1 : x.op = 1
 ·rw [if_pos h1]
  have hxb := hx (by omega)
  refine ⟨⟨true,x.n,⟨0,0⟩⟩,rfl,fun v hv => ?_⟩
  rw [jP,kO _ (by omega) (by omega)]
  have e1 : aQ x = x.x := by unfold aQ;rw [if_pos (by omega)]
  have e2 : aV ts x v = 0 := by unfold aV;rw [if_neg (by omega),if_neg (by omega),if_neg (by omega),if_neg (by omega)]
  rw [e1,e2]; simp
 rw [if_neg h1] at hgo ⊢
 by_cases h2 : x.op = 2
 ·rw [if_pos h2] at hgo ⊢
  have hxb := hx (by omega)
  by_cases h200 : s.cells.length = 200
  ·rw [if_pos h200] at hgo;cases hgo
  ·rw [if_neg h200]
   refine ⟨⟨true,0,⟨s.cells.length,0⟩⟩,rfl,fun v hv => ?_⟩
   rw [jP]
   dsimp only
   rw [kO _ (by omega) (by omega)]
   have e1 : aQ x = x.x := by unfold aQ;rw [if_pos (by omega)]
   have e2 : aV ts x v = 0 := by unfold aV;rw [if_neg (by omega),if_neg (by omega),if_neg (by omega),if_neg (by omega)]
   rw [e1,e2]; simp
 rw [if_neg h2] at hgo ⊢
 by_cases h3 : x.op = 3
 ·rw [if_pos h3]
  have hxb := hx (by omega)
  have hyb := hy (by omega) (by omega)
  have hne := (A.t3 h3).2
  have e1 : aQ x = x.x := by unfold aQ;rw [if_pos (by omega)]
  have hyn : ((x.y.toNat : Nat) : Int) = x.y := by omega
  have hys : s.slots[x.y.toNat]!.set = true := Fb hu (v := x.y.toNat) (by omega) (by
   unfold aV;rw [if_pos h3,if_pos hyn]; split <;> decide)
  refine ⟨s.slots[x.y.toNat]!,hys,fun v hv => ?_⟩
  rw [jP]
  have e2 : aV ts x v = if (v : Int) = x.y then (if ts[x.y.toNat]! = 2 ∨ ts[x.y.toNat]! = 4 then 2 else 1) else 0 := by
   unfold aV;rw [if_pos h3]
   by_cases q : (v : Int) = x.y
   ·rw [if_pos q,if_pos q,q]
   ·rw [if_neg q,if_neg q]
  rw [e1,e2]
  by_cases ht : wZ ts[x.y.toNat]! = true
  ·rw [if_pos ht]
   dsimp only
   rw [kO _ (by rw [List.length_set]; omega) (by rw [List.length_set]; omega),kO _ (by omega) (by omega),if_pos (Ja.1 ht)]
   by_cases q : x.x = (v : Int)
   ·rw [if_pos q,if_pos q]
   ·rw [if_neg q, if_neg q]
    by_cases q2 : x.y = (v : Int)
    ·rw [if_pos q2,if_pos q2.symm,if_pos rfl]
    ·have q3 : ¬ ((v : Int) = x.y) := fun h => q2 h.symm
     rw [if_neg q2,if_neg q3,if_neg (by decide : ¬ (0 : Int) = 2)]
  ·rw [if_neg ht, kO _ (by omega) (by omega), if_neg (fun h => ht (Ja.2 h))]
   by_cases q : x.x = (v : Int)
   ·rw [if_pos q,if_pos q]
   ·rw [if_neg q, if_neg q]
    by_cases q2 : (v : Int) = x.y
    ·rw [if_pos q2,if_neg (by decide)]
    ·rw [if_neg q2,if_neg (by decide)]
 rw [if_neg h3] at hgo ⊢
 by_cases h4 : x.op = 4 ∨ x.op = 5
 ·rw [if_pos h4] at hgo ⊢
  have hxb := hx (by omega)
  split at hgo
  ·rename_i hz
   rw [if_pos hz]
   refine ⟨⟨true,0,sZ s.cells s.slots[x.y.toNat]!.ptr (decide (x.op = 5))⟩,rfl,fun v hv => ?_⟩
   rw [jP]
   dsimp only
   rw [kO _ (by omega) (by omega)]
   have e1 : aQ x = x.x := by unfold aQ;rw [if_pos (by omega)]
   have e2 : aV ts x v ≠ 2 := by unfold aV;rw [if_neg (by omega),if_pos (by omega)]; split <;> decide
   rw [e1,if_neg e2]
  ·exact absurd hgo (hk _)
 rw [if_neg h4] at hgo ⊢
 by_cases h6 : x.op = 6
 ·rw [if_pos h6] at hgo ⊢
  have hxb := hx (by omega)
  split at hgo
  ·rename_i hz
   rw [if_pos hz]
   refine ⟨⟨true,pC s.cells s.slots[x.y.toNat]!.ptr,⟨0,0⟩⟩,rfl,fun v hv => ?_⟩
   rw [jP]
   dsimp only
   rw [kO _ (by omega) (by omega)]
   have e1 : aQ x = x.x := by unfold aQ;rw [if_pos (by omega)]
   have e2 : aV ts x v ≠ 2 := by unfold aV;rw [if_neg (by omega),if_pos (by omega)]; split <;> decide
   rw [e1,if_neg e2]
  ·exact absurd hgo (hk _)
 rw [if_neg h6] at hgo ⊢
 have e1 : aQ x = -1 := by unfold aQ;rw [if_neg (by omega)]
 have e3 : ∀ v : Nat,aQ x ≠ (v : Int) := fun v => by rw [e1]; omega
 by_cases h7 : x.op = 7
 ·rw [if_pos h7]
  refine ⟨⟨true,0,⟨0,0⟩⟩,rfl,fun v hv => ?_⟩
  have e2 : aV ts x v ≠ 2 := by unfold aV;rw [if_neg (by omega),if_neg (by omega),if_pos h7]; split;decide;split <;> decide
  rw [if_neg (e3 v),if_neg e2]
 rw [if_neg h7]
 by_cases h8 : x.op = 8
 ·rw [if_pos h8]
  have hxb := hx (by omega)
  refine ⟨⟨true,0,⟨0,0⟩⟩,rfl,fun v hv => ?_⟩
  dsimp only
  rw [if_neg (e3 v),kO _ (by omega) (by omega)]
  have e2 : aV ts x v = if (v : Int) = x.x then 2 else 0 := by unfold aV;rw [if_neg (by omega),if_neg (by omega),if_neg (by omega),if_pos h8]
  rw [e2]
  by_cases q : x.x = (v : Int)
  ·rw [if_pos q,if_pos q.symm,if_pos rfl]
  ·have q3 : ¬ ((v : Int) = x.x) := fun h => q h.symm
   rw [if_neg q,if_neg q3,if_neg (by decide : ¬ (0 : Int) = 2)]
 ·rw [if_neg h8, if_neg hop.2]
  refine ⟨⟨true,0,⟨0,0⟩⟩,rfl,fun v hv => ?_⟩
  have e2 : aV ts x v ≠ 2 := by unfold aV;rw [if_neg (by omega),if_neg (by omega),if_neg (by omega),if_neg (by omega)]; decide
  rw [if_neg (e3 v),if_neg e2]
section
variable {ts : List Int} {pts : List Pnt}
theorem WG.doS (w:WG ts pts) (A:WA ts pts){a:Nat}(ha:a < pts.length){s:Mc}(hl:s.slots.length = ts.length) (hu:cG ts s pts[a]! = false) (h11:pts[a]!.op ≠ 11) (hgo:(cM ts s pts[a]!).2 = -1) :
  ∃ y : Sl,y.set = true ∧ ∀ v,v < ts.length → (cM ts s pts[a]!).1.slots[v]! = if aQ pts[a]! = (v : Int) then y else if aV ts pts[a]! v = 2 then lN else s.slots[v]! :=
 Kb hl hu (A.a a ha) ⟨(w.op a ha).1,h11⟩ (fun h => ⟨(w.x a ha).1,(w.x a ha).2 h⟩) (fun h1 h2 => ⟨(w.y a ha).1,(w.y a ha).2 h1 h2⟩) hgo
theorem Kx (w:WG ts pts) (A:WA ts pts){a:Nat}(ha:a < pts.length) (h11:pts[a]!.op ≠ 11) (cs:List Int):cO pts a (gU pts a cs).1:=by
 have key : ∀ j : Nat, j < pts[a]!.next.length → cO pts a (pts[a]!.next[j]!).toNat := fun j hj => by
  have hm := aS pts[a]!.next j hj
  refine ⟨ha,?_⟩
  rw [show (((pts[a]!.next[j]!).toNat : Nat) : Int) = pts[a]!.next[j]! by have := (w.nx a ha _ hm).1;omega]
  exact hm
 have h0 := A.n a ha h11
 unfold gU
 split
 ·rename_i h2
  split
  ·exact key 1 (by omega)
  ·rename_i c cs
   exact key _ (by omega)
 ·exact key 0 h0
end
section
variable {ts : List Int} {pts : List Pnt}
structure Vs (ts : List Int) (pts : List Pnt) (a : Nat) (s : Mc) : Prop where
 l : s.slots.length = ts.length
 u : ∀ v,v < ts.length → s.slots[v]!.set = false → Na ts pts (a,v)
 m : ∀ v,v < ts.length → s.slots[v]!.set = true → Mb ts pts (a,v)
theorem pH (ts:List Int) (s:Mc) (v:Nat) (x:Sl):(bS ts s v x).1.slots.length = s.slots.length := by rw [jP,List.length_set]
theorem zN (ts:List Int):∀ n v (s:Mc),(cL ts n v s).1.slots.length = s.slots.length
 | 0,_,_ => rfl
 | n + 1, v, s => by
  unfold cL;split
  ·split
   ·rw [zN ts n]; exact List.length_set
   ·rfl
  ·exact zN ts n _ _
theorem Py (ts:List Int) (s:Mc) (x:Pnt):(cM ts s x).1.slots.length = s.slots.length:=by
 unfold cM
 split
 ·exact pH _ _ _ _
 split
 ·split
  ·rfl
  ·exact pH _ _ _ _
 split
 ·rw [pH]; split
  ·exact List.length_set
  ·rfl
 split
 ·split
  ·exact pH _ _ _ _
  ·rfl
 split
 ·split
  ·exact pH _ _ _ _
  ·rfl
 split
 ·rfl
 split
 ·exact List.length_set
 split
 ·exact zN _ _ _ _
 ·rfl
theorem Vs.start:Vs ts pts 0 (mc0 ts.length):=by
 refine ⟨by simp [mc0],fun v hv _ => .base ⟨hv,.inl rfl⟩,fun v hv h => ?_⟩
 have e : (mc0 ts.length).slots[v]! = lN := by
  show (List.replicate ts.length lN)[v]! = lN
  rw [aY _ _ (by simpa using hv)]; simp
 rw [e] at h;cases h
theorem Vs.step (w:WG ts pts) (A:WA ts pts) (a:Nat) (s:Mc) (k:Nat) (ha:a < pts.length) (h11:pts[a]!.op ≠ 11) (he:cO pts a k) (h:Vs ts pts a s) (hu:cG ts s pts[a]! = false) (hgo:(cM ts s pts[a]!).2 = -1):Vs ts pts k (cM ts s pts[a]!).1:=by
 obtain ⟨y,hy,hs⟩ := w.doS A ha h.l hu h11 hgo
 refine ⟨by rw [Py]; exact h.l,fun v hv hf => ?_,fun v hv ht => ?_⟩
 ·rw [hs v hv] at hf
  by_cases h1 : aQ pts[a]! = (v : Int)
  ·rw [if_pos h1,hy] at hf;cases hf
  ·rw [if_neg h1] at hf
   by_cases h2 : aV ts pts[a]! v = 2
   ·exact .base ⟨hv,.inr ⟨a,he,h2,h1⟩⟩
   ·rw [if_neg h2] at hf
    exact .step (a := (a,v)) (h.u v hv hf) ⟨rfl,he,h1⟩
 ·rw [hs v hv] at ht
  by_cases h1 : aQ pts[a]! = (v : Int)
  ·exact .base ⟨a,he,h1⟩
  ·rw [if_neg h1] at ht
   by_cases h2 : aV ts pts[a]! v = 2
   ·rw [if_pos h2] at ht;cases ht
   ·rw [if_neg h2] at ht
    exact .step (a := (a,v)) (h.m v hv ht) ⟨rfl,he,h2⟩
theorem CK {s:Mc}{x:Pnt}(h:cG ts s x = true):∃ v,v < ts.length ∧ aV ts x v ≠ 0 ∧ s.slots[v]!.set = false:=by
 unfold cG at h
 obtain ⟨v,hv,h2⟩ := List.any_eq_true.1 h
 rw [Bool.and_eq_true,decide_eq_true_eq] at h2
 exact ⟨v,List.mem_range.1 hv,h2.1,by simpa using h2.2⟩
end
theorem xV {m:List Cl}{x:Pt}{u:Bool}(h:m5 m x u = 0):a8 m x u = 0:=by
 unfold m5 at h
 by_cases h0 : a8 m x u = 0
 ·exact h0
 ·rw [if_neg h0] at h;exact h
theorem u5 (ts:List Int):∀ n v (s:Mc),(cL ts n v s).1.read = s.read
 | 0,_,_ => rfl
 | n + 1, v, s => by
  unfold cL;split
  ·split
   ·exact u5 ts n _ _
   ·rfl
  ·exact u5 ts n _ _
theorem k5 (ts:List Int) (s:Mc) (v:Nat) (x:Sl):(bS ts s v x).1.read = s.read := by unfold bS;split <;> rfl
structure Co where
 val : Int
 alive : Bool
 next : Int
 av : AV
instance : Inhabited Co:=⟨⟨0,false,0,.imm 0 []⟩⟩
def eY (c : Co) : List AV := [iv c.val,bv c.alive,iv c.next,c.av]
instance : FlT eY 4:=⟨fun _ => rfl⟩
instance : FE eY (fun c => [iv c.val,bv c.alive,iv c.next,c.av]):=⟨fun _ => rfl⟩
def s9 (c : Cl) : Co := ⟨c.val,c.alive,c.next,sl cD c.stk⟩
def dA (m : List Cl) (j : Nat) (X : AV) : List Co := (m.map s9).set j { s9 m[j]! with av := X }
theorem lD (m:List Cl):flat eY (m.map s9) = flat bO m:=by
 unfold flat;rw [List.flatMap_map]; rfl
theorem c7 {m:List Cl}{j:Nat}{X:AV}:(dA m j X).length = m.length := by unfold dA;rw [List.length_set,List.length_map]
theorem iJ {m:List Cl}{j:Nat}{X:AV}(h:j < m.length):(dA m j X)[j]! = ⟨m[j]!.val,m[j]!.alive,m[j]!.next,X⟩:=by
 unfold dA
 rw [aY _ _ (by rw [List.length_set,List.length_map]; exact h),List.getElem_set_self]; rfl
theorem jY {m:List Cl}{j:Nat}{X:AV}(h:j < m.length):flat eY (dA m j X) = flat bO (m.take j) ++ ([iv m[j]!.val,bv m[j]!.alive,iv m[j]!.next] ++ X :: flat bO (m.drop (j + 1))):=by
 unfold dA
 rw [List.set_eq_take_append_cons_drop,if_pos (by rw [List.length_map]; exact h),← cE,← List.map_take,lD,← List.map_drop]
 congr 1
 show eY _ ++ flat eY _ = _
 rw [lD]; rfl
theorem yW {m:List Cl}{j:Nat}{X:AV}(h:j < m.length):flat eY (dA m j X) = (flat bO (m.take j) ++ [iv m[j]!.val,bv m[j]!.alive,iv m[j]!.next]) ++ X :: flat bO (m.drop (j + 1)):=by
 rw [jY h,List.append_assoc]
theorem B6 {m:List Cl}{j:Nat}{r:List Tg}:flat eY (dA m j (sl cD r)) = flat bO (m.set j { m[j]! with stk := r }):=by
 rw [← lD,List.map_set]; rfl
theorem A6 {m:List Cl}{j:Nat}{X:AV}(h:j < m.length):gW (flat bO m) (0 + j * 4 + 3) [X] = flat eY (dA m j X):=by
 rw [← lD]
 have := eI (f := eY) (xs := m.map s9) (k := j) (j := 3) (new := [X]) (y := { s9 m[j]! with av := X }) (by rw [List.length_map]; exact h) (by simp) (by
  have e : (m.map s9)[j]! = s9 m[j]! := by rw [aY _ _ (by rw [List.length_map]; exact h),List.getElem_map,aY _ _ h]
  rw [e]; rfl)
 exact this
theorem u9 {m:List Cl}{j:Nat}{X Y:AV}(h:j < m.length):gW (flat eY (dA m j X)) (0 + j * 4 + 3) [Y] = flat eY (dA m j Y):=by
 have e : dA m j Y = (dA m j X).set j { s9 m[j]! with av := Y } := by unfold dA;rw [List.set_set]
 rw [e]
 exact eI (by rw [c7]; exact h) (by simp) (by rw [iJ h]; rfl)
theorem Ai {m:List Cl}{j:Nat}{X:AV}{v:Int}(h:j < m.length):gW (flat eY (dA m j X)) (0 + j * 4 + 2) [iv v] = flat eY (dA (m.set j { m[j]! with next := v }) j X):=by
 have e : dA (m.set j { m[j]! with next := v }) j X = (dA m j X).set j ⟨m[j]!.val, m[j]!.alive, v, X⟩ := by
  have e2 : (m.set j { m[j]! with next := v })[j]! = { m[j]! with next := v } := by rw [aY _ _ (by rw [List.length_set]; exact h),List.getElem_set_self]
  unfold dA
  rw [e2,List.map_set,List.set_set,List.set_set]; rfl
 rw [e]
 exact eI (by rw [c7]; exact h) (by simp) (by rw [iJ h]; rfl)
theorem Le.cls {ts:List (Nat × AV)}{hs:List (Nat × Option (List AV))}{n:Nat}{z0:Lo}{o q j k:Nat}{m:List Cl}{r:List Tg}(hj:aT hs o = some (flat eY (dA m j (.own q 0 k 2)))) (hq:aT hs q = some (flat cD r)) (hk:k = r.length) (hjm:j < m.length) (hoq:o ≠ q) :
  Le ⟨ts,hs,n,z0⟩ ⟨ts,(o,some (flat bO (m.set j { m[j]! with stk := r }))) :: (q,none) :: hs,n,z0⟩ := by
 subst hk
 rw [yW hjm] at hj
 have h := Le.frzC (ts := ts) (n := n) (z0 := z0) _ hj hq hoq
 rw [← B6,yW hjm]; exact h
theorem y5 {ρ:Nat → Option Nat}{m:List Cl}{j k i i':Nat}(hr:ρ i = some i'):RnL ρ (flat eY (dA m j (.own i 0 k 2))) (flat eY (dA m j (.own i' 0 k 2))):=by
 by_cases h : j < m.length
 ·rw [jY h, jY h]
  exact RnL.app (RnL.purI inferInstance) (RnL.app (RnL.purI inferInstance) (RnL.cons (RnV.own hr) (RnL.purI inferInstance)))
 ·have e : ∀ X, dA m j X = m.map s9 := fun X => List.set_eq_of_length_le (by rw [List.length_map]; omega)
  rw [e,e,lD]
  exact RnL.purI inferInstance
open Go.RowKit Go.MapKept
def Rn (r : Nat) (ks : List Int) (w : World) : Prop := ∃ es ck,w.heap[r]? = some (.map es ck) ∧ ∀ e ∈ es.toList,∃ k ∈ ks,e.key = .int .i64 k
structure GsM (C : Ctx) (s : AS) (r : Nat) (ks : List Int) (a : Act) (w : World) : Prop where
 g : Gs C s a w
 m : Rn r ks w
 l : C.w0.heap.size ≤ r
theorem Fr.trans2 {W0 W1:Nat → Prop}{w0 w w':World}(h:Fr W0 w0 w) (k:Fr W1 w w') (hW:∀ b,W1 b → W0 b ∨ w0.heap.size ≤ b):Fr W0 w0 w' :=
 ⟨k.os.trans h.os, k.tape.trans h.tape, k.output.trans h.output, Nat.le_trans h.size k.size, fun b hb hw => by
  rw [k.block b (Nat.lt_of_lt_of_le hb h.size) (fun q => (hW b q).elim hw (fun h => by omega))]; exact h.block b hb hw,fun b => Nat.le_trans (h.bs b) (k.bs b)⟩
theorem GsM.base {C:Ctx}{s:AS}{r:Nat}{ks:List Int}{a:Act}{w:World}(h:GsM C s r ks a w):∃ C':Ctx,C'.N = C.N ∧ Gs C' s a w ∧ ∀ s' a' w',Gs C' s' a' w' → GsM C s' r ks a' w':=by
 obtain ⟨⟨h0,ι,g,gh⟩,⟨es,ck,hm,hk⟩,hl⟩ := h
 let C' : Ctx := { C with w0 := w,W0 := fun b => ∃ id cs β,aT s.hs id = some cs ∧ ι id = some (some (b,β)),xlt := fun b hb => Nat.lt_of_lt_of_le (C.xlt b hb) gh.fr.size }
 have hW : ∀ b, C'.W0 b → C.W0 b ∨ C.w0.heap.size ≤ b := by
  rintro b ⟨id,cs,β,h1,h2⟩
  rcases gh.obj id cs h1 with ⟨h3,_⟩ | ⟨b',β',arr,e,h3,h4,h5,h6,h7,h8⟩
  ·rw [h3] at h2;cases h2
  ·rw [h3] at h2;cases h2;exact h8
 have hr : ¬ C'.W0 r := by
  rintro ⟨id,cs,β,h1,h2⟩
  rcases gh.obj id cs h1 with ⟨h3,_⟩ | ⟨b',β',arr,e,h3,h4,h5,h6,h7,h8⟩
  ·rw [h3] at h2;cases h2
  ·rw [h3] at h2;cases h2;rw [hm] at h4;cases h4
 refine ⟨C',rfl,⟨h0,ι,⟨g.df,g.sz,g.tm⟩,⟨fun id cs h => ?_,gh.sep,Fr.refl _ _,gh.ex,gh.fresh⟩⟩,?_⟩
 ·rcases gh.obj id cs h with h1 | ⟨b', β', arr, e, h3, h4, h5, h6, h7, h8⟩
  ·exact .inl h1
  ·exact .inr ⟨b',β',arr,e,h3,h4,h5,h6,h7,.inl ⟨id,cs,β',h,h3⟩⟩
 ·rintro s' a' w' ⟨h0', ι', g', gh'⟩
  have f : Fr C'.W0 w w' := gh'.fr
  refine ⟨⟨h0',ι',⟨g'.df,g'.sz,g'.tm⟩,⟨fun id cs h => ?_,gh'.sep,gh.fr.trans2 f hW,gh'.ex,gh'.fresh⟩⟩,⟨es,ck,by rw [f.block r (fC hm) hr]; exact hm,hk⟩,hl⟩
  rcases gh'.obj id cs h with h1 | ⟨b',β',arr,e,h3,h4,h5,h6,h7,h8⟩
  ·exact .inl h1
  ·refine .inr ⟨b', β', arr, e, h3, h4, h5, h6, h7, ?_⟩
   rcases h8 with h8|h8
   ·exact hW _ h8
   ·exact .inr (Nat.le_trans gh.fr.size h8)
def tH (P : Program) (N : Nat) (c : Code) (Q : Exit → AS → List Int → Prop) (r : Nat) (ks : List Int) (s : AS) : Prop :=
 ∀ (C : Ctx) (a : Act) (w : World),C.N = N → GsM C s r ks a w → c.wp P (fun e a' w' => ∃ s' ks',Q e s' ks' ∧ GsM C s' r ks' a' w') a w
def HQ (P : Program) (N : Nat) (all : Array Oper) (Q : Exit → AS → List Int → Prop) (r : Nat) (ks : List Int) (l : List Oper) (s : AS) : Prop :=
 ∀ (C : Ctx) (a : Act) (w : World),C.N = N → GsM C s r ks a w → wpList P all (fun e a' w' => ∃ s' ks',Q e s' ks' ∧ GsM C s' r ks' a' w') l a w
def vR (K : AS → List Int → Prop) (Q : Exit → AS → List Int → Prop) : Exit → AS → List Int → Prop
 | .normal,s,ks => K s ks
 | e,s,ks => Q e s ks
def NC (id : Nat) (Q : Exit → AS → List Int → Prop) : Exit → AS → List Int → Prop
 | .exit i,s,ks => if i = id then Q .normal s ks else Q (.exit i) s ks
 | e,s,ks => Q e s ks
section
variable {P : Program} {N : Nat} {Q : Exit → AS → List Int → Prop} {s : AS} {r : Nat} {ks : List Int}
theorem pP {c:Code}(h:AW P N c (fun e s' => Q e s' ks) s):tH P N c Q r ks s:=by
 intro C a w hN g
 obtain ⟨C',h1,h2,h3⟩ := g.base
 exact wp_mono (h C' a w (h1.trans hN) h2) fun e a' w' ⟨s',q1,q2⟩ => ⟨s',ks,q1,h3 _ _ _ q2⟩
theorem lZ {x y:Code}(h:tH P N x (vR (fun s' ks' => tH P N y Q r ks' s') Q) r ks s):tH P N (.seq x y) Q r ks s:=by
 intro C a w hN g
 refine wp_seq (wp_mono (h C a w hN g) ?_)
 rintro e a' w' ⟨s',ks',h1,h2⟩
 cases e with
 | normal => exact h1 C a' w' hN h2
 | _ => exact ⟨s',ks',h1,h2⟩
theorem Cm {x y:Code}{c:Operand}{b:Bool}(hc:ev (lk s.ts) c = some (.v (.bool b))) (h1:b = true → tH P N x Q r ks s) (h2:b = false → tH P N y Q r ks s):tH P N (.cond c x y) Q r ks s:=by
 rintro C a w hN ⟨⟨h0,ι,g,gh⟩,hm,hl⟩
 have h := bU g hc
 simp only [Rd] at h
 cases b
 ·exact wp_cond_false h (h2 rfl C a w hN ⟨⟨h0,ι,g,gh⟩,hm,hl⟩)
 ·exact wp_cond_true h (h1 rfl C a w hN ⟨⟨h0,ι,g,gh⟩,hm,hl⟩)
theorem xL {id:Nat}{c:Code}(h:tH P N c (NC id Q) r ks s):tH P N (.block id c) Q r ks s:=by
 intro C a w hN g
 refine wp_block (wp_mono (h C a w hN g) ?_)
 rintro e a' w' ⟨s',ks',h1,h2⟩
 cases e with
 | exit i =>
  simp only [Exit.inBlock,NC] at h1 ⊢
  split
  ·rename_i hi;rw [if_pos hi] at h1;exact ⟨s',ks',h1,h2⟩
  ·rename_i hi;rw [if_neg hi] at h1;exact ⟨s',ks',h1,h2⟩
 | _ => exact ⟨s',ks',h1,h2⟩
theorem Bi (h:Q .normal s ks):tH P N .skip Q r ks s := fun C a w _ g => wp_skip ⟨s,ks,h,g⟩
theorem JV {id:Nat}(h:Q (.exit id) s ks):tH P N (.exit id) Q r ks s := fun C a w _ g => wp_exit ⟨s,ks,h,g⟩
theorem KR {σ:Type}{c:Code}(p:σ → Prop) (I:σ → AS) (J:σ → List Int) (μ:σ → Nat) (h0:∃ i,p i ∧ Le s (I i) ∧ J i = ks)
  (round : ∀ i,p i → tH P N c (vR (fun s' ks' => ∃ j,p j ∧ μ j < μ i ∧ Le s' (I j) ∧ J j = ks') Q) r (J i) (I i)) : tH P N (.loop c) Q r ks s := by
 intro C a w hN g
 obtain ⟨i,h1,h2,h3⟩ := h0
 subst h3
 refine wp_loop (fun a w => ∃ i,p i ∧ GsM C (I i) r (J i) a w) (fun a w => qD fun n => ∃ i,p i ∧ GsM C (I i) r (J i) a w ∧ μ i = n) ⟨i,h1,⟨h2 C a w g.g,g.m,g.l⟩⟩ ?_
 rintro a w ⟨i0,hp0,hg0⟩
 obtain ⟨⟨i,hp,hg,hm⟩,hmin⟩ := jG (S := fun n => ∃ i,p i ∧ GsM C (I i) r (J i) a w ∧ μ i = n) ⟨_,i0,hp0,hg0,rfl⟩
 refine wp_mono (round i hp C a w hN hg) ?_
 rintro e a' w' ⟨s',ks',h3,h4⟩
 cases e with
 | normal =>
  obtain ⟨j,q1,q2,q3,rfl⟩ := h3
  have h5 : GsM C (I j) r (J j) a' w' := ⟨q3 C a' w' h4.g,h4.m,h4.l⟩
  refine ⟨⟨j,q1,h5⟩,?_⟩
  have := (jG (S := fun n => ∃ i,p i ∧ GsM C (I i) r (J i) a' w' ∧ μ i = n) ⟨_,j,q1,h5,rfl⟩).2 (μ j) ⟨j,q1,h5,rfl⟩
  omega
 | _ => exact ⟨s',ks',h3,h4⟩
theorem GG {σ:Type}{c:Code}{ts:List (Nat × AV)}{hs:List (Nat × Option (List AV))}{n:Nat}{z0:Lo}(kl:List Nat) (kt:List (Nat × AV)) (js:List Nat) (kh:List (Nat × Option (List AV)))
  (ot : σ → List (Nat × AV)) (oh : σ → List (Nat × Option (List AV))) (J : σ → List Int) (p : σ → Prop) (μ : σ → Nat) (i0 : σ) (h0 : p i0) (hJ : J i0 = ks) (hk : pR kl ts = kt) (hj : qU js hs = kh)
  (h1 : pG ts (ot i0)) (h2 : oF hs (oh i0))
  (round : ∀ i,p i → tH P N c (vR (fun s' ks' => ∃ j,p j ∧ μ j < μ i ∧ Le s' ⟨ot j ++ kt,oh j ++ kh,n,z0⟩ ∧ J j = ks') Q) r (J i) ⟨ot i ++ kt,oh i ++ kh,n,z0⟩) :
  tH P N (.loop c) Q r ks ⟨ts,hs,n,z0⟩ := by
 subst hk hj
 exact KR p (fun i => ⟨ot i ++ pR kl ts,oh i ++ qU js hs,n,z0⟩) J μ ⟨i0,h0,Le.lit (nN h1 (nI kl)) (mZ h2 (pJ js)) (Nat.le_refl _),hJ⟩ round
theorem vP {id:Nat}{l:List Oper}(h:HQ P N l.toArray Q r ks l s):tH P N (.region id l.toArray false) Q r ks s :=
 fun C a w hN g => wp_region_lit (h C a w hN g)
variable {all : Array Oper}
theorem PW {o:Oper}{a:Act}{w:World}{K K':Act → World → Prop}{Q1 Q2:Exit → Act → World → Prop}(h:∀ a w,K a w → K' a w) (hq:∀ e a w,Q1 e a w → e = .normal)
  (hh : o.wp P a w K Q1) : o.wp P a w K' Q2 := by
 have hL : ¬ LetsOut Q1 := fun ⟨a,w,q⟩ => by cases hq _ _ _ q
 unfold Oper.wp at *
 generalize (execOp a.eval o).run P w = z at *
 cases z with
 | ok n w' =>
  cases n <;> simp only [Oper.upon] at hh ⊢ <;>
   first
    | exact h _ _ hh
    | exact Calls.mono hh (fun e w'' he => by cases e <;> first|exact h _ _ he|(cases hq _ _ _ he)|exact absurd he hL)
    | exact Rows.mono hh (fun _ _ he => h _ _ he)
 | halt x w' => cases x <;> simp only [Oper.upon] at hh ⊢ <;> (cases hq _ _ _ hh)
theorem jX {Q1 Q2:Exit → Act → World → Prop}{l2:List Oper}(k:∀ e a w,Q1 e a w → e = .normal ∧ wpList P all Q2 l2 a w):∀ (l1:List Oper) (a:Act) (w:World),wpList P all Q1 l1 a w → wpList P all Q2 (l1 ++ l2) a w
 | [],a,w,h => (k _ _ _ h).2
 | o :: l1, a, w, h => by
  have hL : ¬ LetsOut Q1 := fun ⟨a,w,q⟩ => by cases (k _ _ _ q).1
  rw [List.cons_append]
  unfold wpList at h ⊢
  split
  ·rename_i hw
   rw [if_pos hw] at h
   rcases h with h | ⟨_,h⟩
   ·exact .inl (PW (fun a w => jX k l1 a w) (fun e a w q => (k e a w q).1) h)
   ·exact absurd h hL
  ·rename_i hw;rw [if_neg hw] at h;exact jX k l1 _ _ h
theorem CM {l1 l2:List Oper}(h:RW P N all (fun e s' => e = .normal ∧ HQ P N all Q r ks l2 s') .txt l1 s):HQ P N all Q r ks (l1 ++ l2) s:=by
 intro C a w hN g
 obtain ⟨C',h1,h2,h3⟩ := g.base
 exact jX (fun e a' w' ⟨s',⟨q1,q2⟩,q3⟩ => ⟨q1,q2 C a' w' hN (h3 _ _ _ q3)⟩) l1 a w (h C' a w (h1.trans hN) h2)
theorem Lr (h:Q .normal s ks):HQ P N all Q r ks [] s := fun C a w _ g => wpList_nil ⟨s,ks,h,g⟩
variable {rest : List Oper} {ts : List (Nat × AV)} {hs : List (Nat × Option (List AV))} {n : Nat} {z0 : Lo} {d : Nat} {ty : TypeId} {pos : String} {af : Array Edge}
theorem Gk {dst:Option Tmp}{op:Op}{j e:Nat}{want b:Bool}(hj:(all[j]?).bind (·.dst) = some e) (hb:lk s.ts e = some (.v (.bool b))) (hw:b = want) (h:HQ P N all Q r ks (⟨dst,op,ty,pos,af,none⟩ :: rest) s) :
  HQ P N all Q r ks (⟨dst,op,ty,pos,af,some (j,want)⟩ :: rest) s := by
 subst hw
 intro C a w hN g
 have h' := h C a w hN g
 obtain ⟨⟨h0,ι,g,gh⟩,hm,hl⟩ := g
 have hyl : yielded all a.tmps j = some b := by
  obtain ⟨y,hy,hr⟩ := g.tm e _ hb
  simp only [Rd] at hr
  subst hr
  simp [yielded,hj,hy]
 unfold wpList at h' ⊢
 simp only [Region.wanted,hyl,if_true,beq_self_eq_true] at h' ⊢
 exact h'
theorem sK {w:World}{mt kt et:TypeId}{es:Array MapEntry}{ck:Nat}{a:Int}(hu:P.underlying mt = some (.map kt et)) (hk:P.underlying kt = some (.int .i64)) (hz:(P.info? et).bind (·.zero) = some (.bool false))
  (hb : w.heap[r]? = some (.map es ck)) (hn : ∀ e ∈ es.toList,∃ k,k ≠ a ∧ e.key = .int .i64 k) : (Instr.lookup mt (.map (some r)) (.int .i64 a) false).run P w = .ok (.bool false) w ∧ Instr.findNow (.int .i64) (.int .i64 a) es.toList 0 = some none := by
 have hkey : IsKey (.int .i64) (.int .i64 a) := by simp [IsKey]
 have hf : Instr.findNow (.int .i64) (.int .i64 a) es.toList 0 = some none := by
  rcases findNow_spec hkey es.toList 0 (fun x hx => by obtain ⟨k,_,h2⟩ := hn x hx;rw [h2]; simp [IsKey]) with ⟨h,_⟩ | ⟨j,e,_,h2,h3⟩
  ·exact h
  ·obtain ⟨k, h4, h5⟩ := hn e (List.mem_of_getElem? h2)
   rw [h5] at h3;cases h3;exact absurd rfl h4
 refine ⟨?_,hf⟩
 cases hi : P.info? et with
 | none => rw [hi] at hz;cases hz
 | some i =>
  rw [hi] at hz
  have hz2 : i.zero = some (.bool false) := hz
  simp [Instr.lookup,bX hu,Go.MapKept.run_getObj_map hb,run_checkKey hk hkey,run_findKey hk hf,zeroValue,typeInfo,hi,hz2,Result.andThen]
theorem Dm {mt kt et:TypeId}{x y:Operand}{a:Int}(hu:P.underlying mt = some (.map kt et)) (hk:P.underlying kt = some (.int .i64)) (hz:(P.info? et).bind (·.zero) = some (.bool false))
  (hx : ev (lk ts) x = some (.v (.map (some r)))) (hy : ev (lk ts) y = some (.v (.int .i64 a))) (ha : a ∉ ks) (hN : Nat.blt d N = true) (kk : HQ P N all Q r ks rest ⟨(d,.v (.bool false)) :: ts,hs,n,z0⟩) :
  HQ P N all Q r ks (⟨some d,.lookup mt x y false,ty,pos,af,none⟩ :: rest) ⟨ts,hs,n,z0⟩ := by
 rintro C ac w hCN ⟨⟨h0,ι,g,gh⟩,⟨es,ck,hm,hkk⟩,hl⟩
 refine wpList_plain rfl (fun K hK => ?_)
 have e1 := bU g hx
 have e2 := bU g hy
 simp only [Rd] at e1 e2
 have hr := (sK (P := P) hu hk hz hm (a := a) (fun e he => by obtain ⟨k,h1,h2⟩ := hkk e he;exact ⟨k,fun q => ha (q ▸ h1),h2⟩)).1
 have hop : (execOp ac.eval ⟨some d, .lookup mt x y false, ty, pos, af, none⟩).run P w = .ok (.value (.bool false)) w := by
  simp [execOp,e1,e2,hr]
 simp only [Oper.wp,hop,Oper.upon]
 refine hK _ _ (kk C _ _ hCN ⟨⟨h0,ι,?_,gh⟩,⟨es,ck,hm,hkk⟩,hl⟩)
 show TG C ι (lk ((d,_) :: ts)) _ _ _
 rw [iH]
 exact g.put (by have := cS hN;omega) (by simp [Rd])
theorem Eb {mt kt et:TypeId}{x y z:Operand}{a:Int}(hu:P.underlying mt = some (.map kt et)) (hk:P.underlying kt = some (.int .i64)) (hz:(P.info? et).bind (·.zero) = some (.bool false))
  (hx : ev (lk ts) x = some (.v (.map (some r)))) (hy : ev (lk ts) y = some (.v (.int .i64 a))) (ha : a ∉ ks) (kk : HQ P N all Q r (ks ++ [a]) rest ⟨ts,hs,n,z0⟩) :
  HQ P N all Q r ks (⟨none,.mapUpdate mt x y z,ty,pos,af,none⟩ :: rest) ⟨ts,hs,n,z0⟩ := by
 rintro C ac w hCN ⟨⟨h0,ι,g,gh⟩,⟨es,ck,hm,hkk⟩,hl⟩
 refine wpList_plain rfl (fun K hK => ?_)
 have e1 := bU g hx
 have e2 := bU g hy
 simp only [Rd] at e1 e2
 have hkey : IsKey (.int .i64) (.int .i64 a) := by simp [IsKey]
 have hf := (sK (P := P) hu hk hz hm (a := a) (fun e he => by obtain ⟨k,h1,h2⟩ := hkk e he;exact ⟨k,fun q => ha (q ▸ h1),h2⟩)).2
 let o2 : Obj := .map (es.push { key := .int .i64 a,val := ac.eval z,born := ck }) (ck + 1)
 let w2 : World := { w with heap := w.heap.setIfInBounds r o2 }
 have hop : (execOp ac.eval ⟨none, .mapUpdate mt x y z, ty, pos, af, none⟩).run P w = .ok .skip w2 := by
  simp [execOp,e1,e2,Instr.mapUpdate,bX hu,Go.MapKept.run_getObj_map hm,run_checkKey hk hkey,run_findKey hk hf,Go.MapKept.run_setObj_map _ hm,Result.andThen,w2,o2]
 obtain ⟨hs1,hs2⟩ := heap_set (o' := o2) hm
 have hne : ∀ b c e f,w.heap[b]? = some (.cells c e f) → b ≠ r := fun b c e f h q => by subst q;rw [hm] at h;cases h
 have hbs : ∀ b, s8 w2 b = s8 w b := fun b => by
  by_cases e : b = r
  ·subst e;show (match w2.heap[b]? with|some (.cells c _ _) => c.size | _ => 0) = _; rw [show w2.heap[b]? = some o2 from hs1]; simp [s8,hm,o2]
  ·exact pK (hs2 b e)
 have hcell : ∀ b o v, w.cell? ⟨b, o, none⟩ = some v → w2.cell? ⟨b, o, none⟩ = some v := fun b o v h => by
  have : b ≠ r := fun q => by subst q;rw [World.cell?] at h;simp [hm] at h
  rw [dE (hs2 b this)]; exact h
 have car : ∀ bad : Nat → Prop,Carry w bad ι w2 bad ι := fun bad => ⟨fun b o v h1 h2 => ⟨h1,hcell b o v h2⟩,fun _ _ h => h,fun b => Nat.le_of_eq (hbs b).symm⟩
 simp only [Oper.wp,hop,Oper.upon]
 refine hK _ _ (kk C _ _ hCN ⟨⟨h0,ι,?_,?_⟩,⟨_,_,hs1,?_⟩,hl⟩)
 ·exact g.carry (car _)
 ·refine ⟨fun id cs h => ?_, gh.sep, ⟨gh.fr.os, gh.fr.tape, gh.fr.output, by show C.w0.heap.size ≤ (w.heap.setIfInBounds r o2).size; rw [Array.size_setIfInBounds]; exact gh.fr.size, fun b hb hw => ?_, fun b => by rw [hbs]; exact gh.fr.bs b⟩, gh.ex, gh.fresh⟩
  ·rcases gh.obj id cs h with h1 | ⟨b', β', arr, e, h3, h4, h5, h6, h7, h8⟩
   ·exact .inl h1
   ·exact .inr ⟨b',β',arr,e,h3,by rw [show w2.heap[b']? = w.heap[b']? from hs2 b' (hne _ _ _ _ h4)]; exact h4,h5,RdC.carryB (car _) _ _ _ (fun o v hv => hcell b' o v hv) h6,h7,h8⟩
  ·rw [show w2.heap[b]? = w.heap[b]? from hs2 b (by omega)]; exact gh.fr.block b hb hw
 ·intro e he
  rw [Array.toList_push,List.mem_append,List.mem_singleton] at he
  rcases he with he|rfl
  ·obtain ⟨k,h1,h2⟩ := hkk e he;exact ⟨k,List.mem_append_left _ h1,h2⟩
  ·exact ⟨a,by simp,rfl⟩
theorem J5 {Q:Exit → AS → Prop}{id:Nat}{t:TypeId}{y:Code}(hN:Nat.blt d N = true)
  (h : ∀ r,HQ P N (⟨some d,.makeMap t none,ty,pos,af,none⟩ :: rest).toArray (fun e s' ks' => e = .normal ∧ tH P N y (fun e s' _ => Q e s') r ks' s') r [] rest ⟨(d,.v (.map (some r))) :: ts,hs,n,z0⟩) :
  AW P N (.seq (.region id (⟨some d,.makeMap t none,ty,pos,af,none⟩ :: rest).toArray false) y) Q ⟨ts,hs,n,z0⟩ := by
 rintro C ac w hCN ⟨h0,ι,g,gh⟩
 refine wp_seq (wp_region_lit (wpList_plain rfl (fun K hK => ?_)))
 have hop : (execOp ac.eval ⟨some d, .makeMap t none, ty, pos, af, none⟩).run P w = .ok (.value (.map (some w.heap.size))) (w.alloc (.map #[] 0)) := by
  simp [execOp,Instr.makeMap,newObj,Sem.run]
 have f : Fr (fun _ => False) w (w.alloc (.map #[] 0)) := by
  refine ⟨rfl,rfl,rfl,by simp,fun b hb _ => Below.heap_alloc w _ b hb,fun b => ?_⟩
  rcases Nat.lt_or_ge b w.heap.size with hb|hb
  ·rw [pK (Below.heap_alloc w _ b hb)]; exact Nat.le_refl _
  ·simp [s8,Array.getElem?_eq_none hb]
 obtain ⟨g2,c2⟩ := gh.ext f
 simp only [Oper.wp,hop,Oper.upon]
 refine hK _ _ ?_
 have hh := h w.heap.size C (ac.put (some d) (.map (some w.heap.size))) (w.alloc (.map #[] 0)) hCN ⟨⟨h0,ι,?_,g2⟩,⟨#[],0,heap_alloc_new w _,by simp⟩,gh.fr.size⟩
 ·have := jX (l2 := []) (P := P) (Q2 := Exit.then (y.wp P (fun e a' w' => ∃ s', Q e s' ∧ Gs C s' a' w')) (fun e a' w' => ∃ s', Q e s' ∧ Gs C s' a' w')) (all := (⟨some d, .makeMap t none, ty, pos, af, none⟩ :: rest).toArray)
   (k := fun e a' w' ⟨s', ks', ⟨q1, q2⟩, q3⟩ => ⟨q1, by
    subst q1
    exact wpList_nil (wp_mono (q2 C a' w' hCN q3) (fun e a'' w'' ⟨s'',ks'',u1,u2⟩ => ⟨s'',u1,u2.g⟩))⟩) rest _ _ hh
  rw [List.append_nil] at this
  exact this
 ·show TG C ι (lk ((d, _) :: ts)) _ _ _
  rw [iH]
  exact (g.carry c2).put (by have := cS hN;omega) (by simp [Rd])
theorem Iv {K K2:AS → List Int → Prop}{id:Nat}(h:Q .normal s ks):vR K (vR K2 (NC id Q)) (.exit id) s ks:=by
 have e : vR K (vR K2 (NC id Q)) (.exit id) s ks = (if id = id then Q .normal s ks else Q (.exit id) s ks) := rfl
 rw [e,if_pos rfl]; exact h
theorem JP {Q:Exit → AS → Prop}{id:Nat}{t:TypeId}{y:Code}(h:Stop (AW P N (.seq (.region id (⟨some d,.makeMap t none,ty,pos,af,none⟩ :: rest).toArray false) y) Q s)) :
  AW P N (.seq (.region id (⟨some d,.makeMap t none,ty,pos,af,none⟩ :: rest).toArray false) y) Q s := h
theorem ON {Q:Exit → AS → Prop}{c:Code}(h:AW P N c Q s):Stop (AW P N c Q s) := h
theorem Cf {l:List Oper}(h:RW P N all (fun e s' => e = .normal ∧ Q e s' ks) .txt l s):HQ P N all Q r ks l s:=by
 intro C a w hN g
 obtain ⟨C',h1,h2,h3⟩ := g.base
 have := jX (l2 := []) (P := P) (all := all) (Q1 := fun e a' w' => ∃ s', (e = .normal ∧ Q e s' ks) ∧ Gs C' s' a' w') (Q2 := fun e a' w' => ∃ s' ks', Q e s' ks' ∧ GsM C s' r ks' a' w')
  (k := fun e a' w' ⟨s',⟨q1,q2⟩,q3⟩ => ⟨q1,by subst q1;exact wpList_nil ⟨s',ks,q2,h3 _ _ _ q3⟩⟩) l a w (h C' a w (h1.trans hN) h2)
 rwa [List.append_nil] at this
end
section
variable {P : Program} {N : Nat} {Q : Exit → AS → Prop} {all : Array Oper} {rest : List Oper} {ts : List (Nat × AV)} {hs : List (Nat × Option (List AV))} {n : Nat} {z0 : Lo} {md : Md}
variable {d : Nat} {ty : TypeId} {pos : String} {af : Array Edge}
theorem jN {α:Type}{hα:Inhabited α}{f g:α → List AV}{xs:List α}{e id k j z:Nat}{t:TypeId}{x:Operand}{cs':List AV}[ha:AgT P t true] [hz:SzT P t z] (hx:ev (lk ts) x = some (.optr id (0 + k * e + j)))
  (hH : aT hs id = some (flat f xs)) (hf : FlT f e) (hg : FE f g) (hk : k < xs.length) (hj : j + z ≤ e) (hc : ((g xs[k]!).drop j).take z = cs') (h0 : Nat.blt 0 z = true) (hN : Nat.blt d N = true) {md' : Md} [hmd : MdA md (rO x ++ rA (.optr id (0 + k * e + j))) [.inl d] md']
  (kk : RW P N all Q md' rest ⟨(d,.agg cs') :: ts,hs,n,z0⟩) : RW P N all Q md (⟨some d,.load t x,ty,pos,af,none⟩ :: rest) ⟨ts,hs,n,z0⟩ := by
 have hl : (g xs[k]!).length = e := by rw [← hg.pf]; exact hf.pf _
 subst hc
 refine lG (cs := (flat f xs).drop (0 + k * e + j)) hx ha.pf hz.pf (by simp only [deref,hH,Option.map_some]) (cs' := ((g xs[k]!).drop j).take z) ?_ (by rw [List.length_take,List.length_drop,hl]; omega) (by have := cS h0;omega) (cS hN) (by rw [hmd.pf]; exact kk)
 rw [Nat.zero_add,← List.drop_drop,fE f xs k hk,← hg.pf,List.drop_append_of_le_length (by rw [hf.pf]; omega),List.take_append_of_le_length (by rw [List.length_drop,hf.pf]; omega)]
end
theorem Gq (c:Int):gN .and .i64 c 1 = some (.int .i64 (c % 2)):=by
 have h : (BitVec.ofInt 64 c &&& BitVec.ofInt 64 1).toNat = (c % 2).toNat := by
  rw [BitVec.toNat_and,show (BitVec.ofInt 64 1).toNat = 1 from rfl,Nat.and_one_is_mod,BitVec.toNat_ofInt]
  omega
 have e : gN .and .i64 c 1 = some (.int .i64 (IntKind.i64.wrap ((BitVec.ofInt 64 c &&& BitVec.ofInt 64 1).toNat : Int))) := rfl
 rw [e,h]
 rcases Int.emod_two_eq c with h2|h2 <;> rw [h2] <;> rfl
section
variable {P : Program} {N : Nat} {Q : Exit → AS → Prop} {all : Array Oper} {rest : List Oper} {ts : List (Nat × AV)} {hs : List (Nat × Option (List AV))} {n : Nat} {z0 : Lo} {md : Md}
variable {d : Nat} {ty : TypeId} {pos : String} {af : Array Edge}
theorem Lz {t t':TypeId}{x y:Operand}{c:Int}(hx:ev (lk ts) x = some (.v (.int .i64 c))) (hy:ev (lk ts) y = some (.v (.int .i64 1)))
  (hN : Nat.blt d N = true) {md' : Md} [hmd : MdA md (rO x ++ rO y) [.inl d] md'] (kk : RW P N all Q md' rest ⟨(d,.v (.int .i64 (c % 2))) :: ts,hs,n,z0⟩) : RW P N all Q md (⟨some d,.binOp .and t x y t',ty,pos,af,none⟩ :: rest) ⟨ts,hs,n,z0⟩ :=
 dT hx hy (.inl rfl) (Gq c) (cS hN) (by rw [hmd.pf]; exact kk)
end
end Go.AL
