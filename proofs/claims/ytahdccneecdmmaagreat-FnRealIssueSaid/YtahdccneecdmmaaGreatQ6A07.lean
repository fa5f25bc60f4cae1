/-
 A part of the proofs over this program: rules and contracts of its functions (the rules).
-/
import Derived.Test.YtahdccneecdmmaaGreatQ6A06
set_option linter.unusedVariables false
set_option linter.unusedSimpArgs false
namespace Go.AL
theorem oL {pts:List Pnt}{f:Nat}(w:∀ i,i < pts.length → ∀ k ∈ pts[i]!.next,0 ≤ k ∧ k < pts.length) (hf:f < pts.length):∀ h,BI pts f (kE pts f h)
 | 0 => BI.nil pts f
 | h + 1 => by
  have I := oL w hf h
  rw [kE]
  split
  ·rename_i hh
   have hq := Ek hh
   have hl : (lE f (kE pts f h))[h]! < pts.length := by
    rcases hq with e|e
    ·rw [e]; exact hf
    ·obtain ⟨x,hx,e⟩ := List.mem_map.1 e;rw [← e]; exact ((I.le w).2 x hx).1
   exact AX _ _ I hq (fun k hk => ⟨hl,by have := w _ hl k hk;rw [Int.toNat_of_nonneg this.1]; exact hk⟩)
  ·exact I
theorem wU (pts:List Pnt) (f h:Nat):kE pts f h <+: kE pts f (h + 1):=by
 rw [kE]; split
 ·exact iO _ _ _
 ·exact List.prefix_refl _
theorem FK (pts:List Pnt) (f h:Nat):∀ d,kE pts f h <+: kE pts f (h + d)
 | 0 => List.prefix_refl _
 | d + 1 => (FK pts f h d).trans (wU pts f (h + d))
theorem w5 {pts:List Pnt}{f h:Nat}(hh:(lE f (kE pts f h)).length ≤ h):∀ d,kE pts f (h + d) = kE pts f h
 | 0 => rfl
 | d + 1 => by
  show kE pts f (h + d + 1) = _
  rw [kE,w5 hh d,if_neg (by omega)]
def nN (pts : List Pnt) (f : Nat) : List (Nat × Nat) := kE pts f (pts.length + 1)
theorem gO (f:Nat) (E:List (Nat × Nat)):(lE f E).length = E.length + 1 := by unfold lE;simp
theorem Ft {pts:List Pnt}{f h:Nat}(w:∀ i,i < pts.length → ∀ k ∈ pts[i]!.next,0 ≤ k ∧ k < pts.length) (hf:f < pts.length) (hh:(lE f (kE pts f h)).length ≤ h):kE pts f h = nN pts f:=by
 unfold nN
 have h1 := ((oL w hf (pts.length + 1)).le w).1
 rcases Nat.le_total h (pts.length + 1) with hl|hl
 ·obtain ⟨d, e⟩ : ∃ d, pts.length + 1 = h + d := ⟨pts.length + 1 - h, by omega⟩
  rw [e,w5 hh]
 ·obtain ⟨d, rfl⟩ : ∃ d, h = pts.length + 1 + d := ⟨h - (pts.length + 1), by omega⟩
  exact w5 (by rw [gO]; omega) d
theorem EL {pts:List Pnt}{f h:Nat}(hl:h ≤ pts.length + 1):kE pts f h <+: nN pts f:=by
 unfold nN
 obtain ⟨d,e⟩ : ∃ d,pts.length + 1 = h + d := ⟨pts.length + 1 - h,by omega⟩
 rw [e]; exact FK pts f h d
theorem Em {pts:List Pnt}{f:Nat}:∀ h j,j < h → j < (lE f (kE pts f h)).length → ∀ k ∈ pts[(lE f (kE pts f h))[j]!]!.next,k.toNat ∈ (kE pts f h).map (·.1)
 | 0,j,h,_ => by omega
 | h + 1, j, hj, hl => by
  have key : ∀ i, i < (lE f (kE pts f h)).length → (lE f (kE pts f (h + 1)))[i]! = (lE f (kE pts f h))[i]! := fun i hi => by
   obtain ⟨D,e⟩ := wU pts f h
   have : lE f (kE pts f (h + 1)) = lE f (kE pts f h) ++ D.map (·.1) := by unfold lE;rw [← e]; simp
   rw [this,fQ,if_pos hi]
  by_cases hh : h < (lE f (kE pts f h)).length
  ·by_cases e : j = h
   ·subst e
    intro k hk
    rw [key j hh] at hk
    rw [kE,if_pos hh]
    exact By _ _ _ k hk
   ·intro k hk
    rw [key j (by omega)] at hk
    exact Ae (wU pts f h) (Em h j (by omega) (by omega) k hk)
  ·rw [kE, if_neg hh] at hl ⊢
   exact Em h j (by omega) hl
theorem JP {pts:List Pnt}{f:Nat}(w:∀ i,i < pts.length → ∀ k ∈ pts[i]!.next,0 ≤ k ∧ k < pts.length) (hf:f < pts.length) (x:Nat) (hx:x = f ∨ x ∈ (nN pts f).map (·.1)) (k:Int) (hk:k ∈ pts[x]!.next):k.toNat ∈ (nN pts f).map (·.1):=by
 have h1 := ((oL w hf (pts.length + 1)).le w).1
 have hm : x ∈ lE f (nN pts f) := by unfold lE;rw [List.mem_cons]; exact hx
 obtain ⟨j,hj,e⟩ := List.getElem_of_mem hm
 have hjl : j < pts.length + 1 := by rw [gO] at hj;unfold nN at hj;omega
 have e2 : (lE f (nN pts f))[j]! = x := by rw [aZ _ j hj]; exact e
 refine Em (pts.length + 1) j hjl hj k ?_
 show k ∈ pts[(lE f (nN pts f))[j]!]!.next
 rw [e2]; exact hk
theorem BI.wy {pts:List Pnt}{f:Nat}{E:List (Nat × Nat)}(I:BI pts f E):∀ n D R e,E = D ++ e :: R → D.length ≤ n → Wy pts f e.1
 | n, D, R, e, h, hn => by
  have he := I.ed e (by rw [h]; simp)
  rcases I.pr D R e h with h2|h2
  ·rw [h2] at he;exact .base he
  ·obtain ⟨x, hx, h3⟩ := List.mem_map.1 h2
   obtain ⟨D1,D2,rfl⟩ := List.append_of_mem hx
   cases n with
   | zero => simp at hn
   | succ n =>
    have := I.wy n D1 (D2 ++ e :: R) x (by rw [h]; simp) (by simp at hn;omega)
    rw [← h3] at he
    exact .step this he
theorem gI {pts:List Pnt}{f:Nat}(w:∀ i,i < pts.length → ∀ k ∈ pts[i]!.next,0 ≤ k ∧ k < pts.length) (hf:f < pts.length) (k:Nat):0 ≤ iP (nN pts f) k ↔ Wy pts f k:=by
 rw [fE]
 constructor
 ·intro h
  obtain ⟨x,hx,rfl⟩ := List.mem_map.1 h
  obtain ⟨D1,D2,e⟩ := List.append_of_mem hx
  exact (oL w hf (pts.length + 1)).wy _ D1 D2 x e (Nat.le_refl _)
 ·intro h
  refine Clo.sub (T := fun k => k ∈ (nN pts f).map (·.1)) (fun k he => ?_) (fun a b ha he => ?_) k h
  ·have := JP w hf f (.inl rfl) _ he.2;rwa [Int.toNat_natCast] at this
  ·have := JP w hf a (.inr ha) _ he.2;rwa [Int.toNat_natCast] at this
def Dd (f : Nat) : List (Nat × Nat) → Nat → List Nat
 | [],x => [x]
 | (k,a) :: R,x => if k = x then (if a = f then [f] else Dd f R a) ++ [x] else Dd f R x
def Qs (f : Nat) (R : List (Nat × Nat)) (x : Nat) : List Nat := if x = f then [f] else Dd f R x
theorem vX (f:Nat):∀ (D R:List (Nat × Nat)) (x:Nat),x ∉ D.map (·.1) → Dd f (D ++ R) x = Dd f R x
 | [],R,x,_ => rfl
 | (k, a) :: D, R, x, h => by
  simp only [List.map_cons,List.mem_cons,not_or] at h
  rw [List.cons_append,Dd,if_neg (fun e => h.1 e.symm)]
  exact vX f D R x h.2
theorem zM {E:List (Nat × Nat)}(nd:(E.map (·.1)).Nodup){k a:Nat}(h:(k,a) ∈ E):iP E k = a:=by
 obtain ⟨D,R,rfl⟩ := List.append_of_mem h
 unfold iP
 rw [List.find?_append]
 have : D.find? (fun e => e.1 == k) = none := by
  rw [List.find?_eq_none]; intro e he h2
  simp only [beq_iff_eq] at h2
  rw [List.map_append,List.nodup_append] at nd
  exact nd.2.2 e.1 (List.mem_map.2 ⟨e,he,rfl⟩) k (by simp) h2
 rw [this]; simp
theorem nJ {pts:List Pnt}{f:Nat}{E R:List (Nat × Nat)}{x:Nat}(I:BI pts f E) (hR:R <:+ E.reverse) (hx:x ∈ R.map (·.1)) :
  ∃ (a : Nat) (R' : List (Nat × Nat)),iP E x = (a : Int) ∧ R' <:+ E.reverse ∧ R'.length < R.length ∧ Dd f R x = Qs f R' a ++ [x] ∧ (a ≠ f → a ∈ R'.map (·.1)) := by
 obtain ⟨e,he,rfl⟩ := List.mem_map.1 hx
 obtain ⟨D,R',rfl⟩ := List.append_of_mem he
 obtain ⟨k,a⟩ := e
 obtain ⟨P,hP⟩ := hR
 have hE : E = R'.reverse ++ (k, a) :: (D.reverse ++ P.reverse) := by
  have := congrArg List.reverse hP
  rw [List.reverse_reverse] at this
  rw [← this]; simp
 have hnd := I.nd
 have hk : k ∉ D.map (·.1) := by
  intro h
  rw [hE,List.map_append,List.nodup_append] at hnd
  have := hnd.2.1
  simp only [List.map_cons,List.map_append,List.map_reverse,List.nodup_cons,List.mem_append,List.mem_reverse,not_or] at this
  exact this.1.1 h
 refine ⟨a,R',zM hnd (by rw [hE]; simp),⟨P ++ D ++ [(k,a)],by rw [← hP]; simp⟩,by simp;omega,?_,fun h => ?_⟩
 ·dsimp only
  rw [vX f D _ _ hk,Dd,if_pos rfl]; rfl
 ·rcases I.pr _ _ _ hE with h2 | h2
  ·exact absurd h2 h
  ·simpa using h2
theorem Bd {f:Nat}{E E':List (Nat × Nat)}{x:Nat}(h:E <+: E') (nd:(E'.map (·.1)).Nodup) (hx:x ∈ E.map (·.1)):Dd f E'.reverse x = Dd f E.reverse x ∧ iP E' x = iP E x:=by
 obtain ⟨D,rfl⟩ := h
 rw [List.map_append,List.nodup_append] at nd
 constructor
 ·rw [List.reverse_append]
  refine vX f _ _ _ (fun hd => ?_)
  rw [List.map_reverse,List.mem_reverse] at hd
  exact nd.2.2 x hx x hd rfl
 ·obtain ⟨e, he, rfl⟩ := List.mem_map.1 hx
  obtain ⟨k,a⟩ := e
  rw [zM nd.1 he,zM (by rw [List.map_append,List.nodup_append]; exact nd) (List.mem_append_left _ he)]
def eJ (pts : List Pnt) (f x : Nat) : List Nat := if 0 ≤ iP (nN pts f) x then Dd f (nN pts f).reverse x else []
def eV (l : List Nat) : List Int := l.map (fun (k : Nat) => (k : Int))
def kW (W : Nat → List Nat) (U : Nat → Bool) : Nat → Int × List Nat
 | 0 => (-1,[])
 | i + 1 => if U i = true ∧ W i ≠ [] ∧ ((kW W U i).1 < 0 ∨ (W i).length < (kW W U i).2.length) then ((i : Int),W i) else kW W U i
theorem qK (W:Nat → List Nat) (U:Nat → Bool):∀ i,((kW W U i).1 = -1 ∧ (kW W U i).2 = []) ∨ ∃ j,j < i ∧ (kW W U i).1 = (j:Int) ∧ U j = true ∧ (kW W U i).2 = W j ∧ W j ≠ []
 | 0 => .inl ⟨rfl,rfl⟩
 | i + 1 => by
  rw [kW]; split
  ·rename_i h;exact .inr ⟨i,by omega,rfl,h.1,rfl,h.2.1⟩
  ·rcases qK W U i with h | ⟨j, h1, h2⟩
   ·exact .inl h
   ·exact .inr ⟨j,by omega,h2⟩
def eT (ts : List Int) (pts : List Pnt) (Af : List Nat) (loan i : Nat) : Bool := (List.range ts.length).any fun v => decide (aQ ts pts[i]! v ≠ 0) && (dA Af i)[v]!.testBit loan
theorem BQ {pts:List Pnt}{f:Nat}{E:List (Nat × Nat)}(I:BI pts f E):∀ n R x,R.length ≤ n → R <:+ E.reverse → x ∈ R.map (·.1) → ∃ T,Dd f R x = f :: (T ++ [x])
 | n, R, x, hn, hR, hx => by
  obtain ⟨a,R',_,h2,h3,h4,h5⟩ := nJ I hR hx
  rw [h4]
  unfold Qs
  by_cases e : a = f
  ·rw [if_pos e]; exact ⟨[],rfl⟩
  ·rw [if_neg e]
   cases n with
   | zero => omega
   | succ n =>
    obtain ⟨T,hT⟩ := BQ I n R' a (by omega) h2 (h5 e)
    rw [hT]; exact ⟨T ++ [a],by simp⟩
section
variable {pts : List Pnt} {f : Nat} (w : ∀ i,i < pts.length → ∀ k ∈ pts[i]!.next,0 ≤ k ∧ k < pts.length) (hf : f < pts.length)
include w hf
theorem pR {x:Nat}(h:0 ≤ iP (nN pts f) x):∃ T,eJ pts f x = f :: (T ++ [x]):=by
 unfold eJ
 rw [if_pos h]
 have I : BI pts f (nN pts f) := oL w hf _
 exact BQ I _ _ _ (Nat.le_refl _) (List.suffix_refl _) (by rw [List.map_reverse,List.mem_reverse]; exact fE.1 h)
theorem jX {x:Nat}:eJ pts f x ≠ [] ↔ Wy pts f x:=by
 rw [← gI w hf]
 constructor
 ·intro h
  apply Classical.byContradiction
  intro h2;unfold eJ at h;rw [if_neg h2] at h;exact h rfl
 ·intro h
  obtain ⟨T,e⟩ := pR w hf h
  rw [e]; simp
theorem ON {E:List (Nat × Nat)}{x:Nat}(hE:E <+: nN pts f) (hx:0 ≤ iP E x):eJ pts f x = Dd f E.reverse x ∧ BI pts f E:=by
 have I : BI pts f (nN pts f) := oL w hf _
 have hm := fE.1 hx
 have h1 := Bd (f := f) hE I.nd hm
 unfold eJ
 rw [if_pos (by rw [h1.2]; exact hx)]
 refine ⟨h1.1,?_⟩
 obtain ⟨D,e⟩ := hE
 have nd := I.nd
 rw [← e,List.map_append,List.nodup_append] at nd
 refine ⟨nd.1,fun x hx => I.ed x (by rw [← e]; exact List.mem_append_left _ hx),fun D' R x h => I.pr D' (R ++ D) x (by rw [← e,h]; simp)⟩
end
section
variable {P : Program} {C : Ctx} {ι : Pl} {F : Nat → Prop} {T : Nat → Option AV} {H : Nat → Option (List AV)} {a : Act} {w : World} {o : Oper}
theorem xL (t tn ty e:TypeId) (i:TypeInfo) (z:Value) (k kn:IntKind) (ht:P.underlying t = some (.slice e)) (htn:P.underlying tn = some (.int kn)) (hi:P.info? e = some i) (hz:i.zero = some z)
  (n : Nat) (h0 : 0 < n) (hs : 0 < i.size) (h63 : n ≤ 9223372036854775807) (hb : n * i.bytes ≤ 140737488355328) :
  (Builtin.append_ #[t, tn] ty #[.slice none 0 0, .int k (n : Int)]).run P w =
   .ok (.slice (some ⟨w.heap.size,0,none⟩) n (grownCap w n 0 e)) (w.drew.alloc (.cells (Builtin.zeroCells z.cells n ++ Builtin.zeroCells z.cells (grownCap w n 0 e - n)) e)) := by
 have h1 : n ≠ 0 := by omega
 have h2 : IntKind.i64.wrap (n : Int) = n := wC (by omega)
 have h3 : ¬ (9223372036854775807 < (n : Int)) := by omega
 have hfit := growslice_fits (need := n) (old := 0) (bytes := i.bytes) (by omega) hb
 have h4 : ¬ (281474976710656 < Builtin.nextslicecap n 0 * i.bytes) := by omega
 have h5 : ¬ (281474976710656 < (n : Int) * (i.bytes : Int)) := by rw [← Int.natCast_mul]; omega
 have h6 : ¬ ((n : Int) < 0) := by omega
 have h7 : ¬ (n * i.size = 0) := Nat.mul_ne_zero h1 (by omega)
 have h8 : ∀ w : World,(Builtin.firstCells i.size 0 (.slice none 0 0)).run P w = .ok #[] w := fun w => by simp [Builtin.firstCells,loadCells,loadCellsFrom]
 simp [Builtin.append_,bW ht,bW htn,sizeOf,typeInfo,zeroValue,hi,hz,asInt,asIntOf,h2,h1,h6,h7,h3,h4,h5,Question.forced,h8,newRow,grownCap]
theorem nA (z:Array Value):∀ n,(Builtin.zeroCells z n).toList = (List.replicate n z.toList).flatten := fun n => by
 have := rX z n (n * z.size) rfl
 simpa [Builtin.zeroCells,madeCells] using this
theorem Im (g:TG C ι T H a w) (gh:HG C ι F H w){t tn el:TypeId}{e by' id n:Nat}{x y:Operand}{zs:List Value}{k k':IntKind}(ho:o.op = .call ⟨.builtin .append,#[x,y],#[t,tn]⟩)
  (hx : ev T x = some (.v (.slice none 0 0))) (hy : ev T y = some (.v (.int k (n : Int)))) (ht : mI P t = some el) (htn : P.underlying tn = some (.int k')) (he : fN P el = some e) (hb : B6 P el = some by') (hz : pC P el = some zs) (hze : zs.length = e)
  (he0 : 0 < e) (h0 : 0 < n) (hsm : n * by' ≤ 140737488355328) (hmx : n ≤ 9223372036854775807) (hf : F id) :
  Ef P C ι (fun j => F j ∧ j ≠ id) H a w o (.own id 0 n e) (dW H id (some ((List.replicate n (zs.map .v)).flatten))) := by
 obtain ⟨i,z,h1,h2,h3,h4⟩ := pF hz
 have hzsz : z.cells.size = e := by rw [← hze,← h3]; simp
 have hx' := bV g hx
 have hy' := bV g hy
 simp only [Rd] at hx' hy'
 have hr := xL (P := P) (w := w) t tn o.type el i z k k' (iB ht) htn h1 h2 n h0 (by rw [wV he h1]; exact he0) hmx (by rw [ED hb h1]; exact hsm)
 obtain ⟨g1,c1⟩ := rF gh
 have harr : (Builtin.zeroCells z.cells n).toList = (List.replicate n zs).flatten := by rw [nA,h3]
 obtain ⟨g3, c4⟩ := g1.alloc (id := id) hf (arr := Builtin.zeroCells z.cells n ++ Builtin.zeroCells z.cells (grownCap w n 0 el - n)) el (cs := (List.replicate n (zs.map AV.v)).flatten) (l := (List.replicate n zs).flatten) (rest := (Builtin.zeroCells z.cells (grownCap w n 0 el - n)).toList)
  (by rw [Array.toList_append, harr]) (by
   have : (List.replicate n (zs.map AV.v)).flatten = ((List.replicate n zs).flatten).map AV.v := by rw [List.map_flatten,List.map_replicate]
   rw [this]; exact sK (qR zs h4 n))
 refine ⟨_,.slice (some ⟨w.heap.size,0,none⟩) n (grownCap w n 0 el),_,_,?_,.inl ⟨rfl,?_⟩,g3,c1.trans c4⟩
 ·simp [execOp,ho,resolve,invoke,builtin,hx',hy',hr]
 ·simp only [Rd]
  have hge := grownCap_ge w n 0 el
  refine .inr ⟨w.heap.size,0,_,by simp,by simp,hge,?_⟩
  have hh : (w.drew.alloc (.cells (Builtin.zeroCells z.cells n ++ Builtin.zeroCells z.cells (grownCap w n 0 el - n)) el)).heap[w.heap.size]? = some (.cells (Builtin.zeroCells z.cells n ++ Builtin.zeroCells z.cells (grownCap w n 0 el - n)) el (0,0)) := heap_alloc_new w.drew _
  rw [tB,hh]
  simp only [Array.size_append,size_zeroCells,hzsz,← Nat.add_mul]
  rw [show n + (grownCap w n 0 el - n) = grownCap w n 0 el from by omega]
  omega
end
section
variable {P : Program} {N : Nat} {Q : Exit → AS → Prop} {all : Array Oper} {rest : List Oper} {ts : List (Nat × AV)} {hs : List (Nat × Option (List AV))} {n : Nat} {z0 : Lo} {md : Md}
variable {d : Nat} {ty : TypeId} {pos : String} {af : Array Edge}
theorem I6 {t tn el:TypeId}{e by' m:Nat}{x y:Operand}{zs:List Value}{k k':IntKind}{z:Int}[ht:SlT P t el] [he:SzT P el e] [hb:ByT P el by'] [hz:ZrT P el zs] (htn:P.underlying tn = some (.int k'))
  (hx : ev (lk ts) x = some (.v (.slice none 0 0))) (hy : ev (lk ts) y = some (.v (.int k z))) (hzm : z = (m : Int)) (hze : zs.length = e) (he0 : Nat.blt 0 e = true) (h0 : 0 < m) (hsm : m * by' ≤ 140737488355328) (hmx : m ≤ 9223372036854775807)
  (hM : Nat.blt n a6 = true) (hN : Nat.blt d N = true) (kk : RW P N all Q .txt rest ⟨(d,.own n 0 m e) :: ts,(n,some ((List.replicate m (zs.map .v)).flatten)) :: hs,n + 1,z0⟩) :
  RW P N all Q .txt (⟨some d,.call ⟨.builtin .append,#[x,y],#[t,tn]⟩,ty,pos,af,none⟩ :: rest) ⟨ts,hs,n,z0⟩ := by
 subst hzm
 exact R7 (rs := rO x ++ rO y) rfl rfl (cS hN) hM (fun C ι F T H a w ag hF g gh => Im g gh rfl (ag.l.ev.trans hx) (ag.r.ev.trans hy) ht.pf htn he.pf hb.pf hz.pf hze (cS he0) h0 hsm hmx hF) kk
theorem GX {t el:TypeId}{x:Operand}[ht:SlT P t el] (hx:ev (lk ts) x = some (.v (.slice none 0 0))) (hN:Nat.blt d N = true) (kk:RW P N all Q .txt rest ⟨(d,.v (.int .i64 0)) :: ts,hs,n,z0⟩) :
  RW P N all Q .txt (⟨some d,.call ⟨.builtin .cap,#[x],#[t]⟩,ty,pos,af,none⟩ :: rest) ⟨ts,hs,n,z0⟩ := by
 refine dJ (out := .v (.int .i64 0)) (rs := rO x) rfl rfl (cS hN) (fun C ι F T H a w ag g gh => ?_) kk
 have hx' := bV g (ag.ev.trans hx)
 simp only [Rd] at hx'
 exact ⟨.int .i64 0,by simp [execOp,resolve,invoke,builtin,hx',Builtin.cap_,bW (iB ht.pf),goInt],by simp only [Rd]⟩
theorem wA {t el:TypeId}{x y:Operand}{i o m e:Nat}{k:IntKind}{z:Int}{h:Nat}[ht:SlT P t el] [he:SzT P el e] (hx:ev (lk ts) x = some (.own i o m e)) (hy:ev (lk ts) y = some (.v (.int k z))) (hz:z = (h:Int)) (hb:h ≤ m) (hN:Nat.blt d N = true)
  {md' : Md} [hmd : MdA md (rO x ++ (rB none ++ rB (some y))) [.inl d] md'] (kk : RW P N all Q md' rest ⟨(d,.own i o h e) :: ts,hs,n,z0⟩) : RW P N all Q md (⟨some d,.slice t x none (some y) none,ty,pos,af,none⟩ :: rest) ⟨ts,hs,n,z0⟩ := by
 subst hz
 exact gV (m := m) (l := 0) (h := h) hx rfl rfl (by simp [gC,hy]) (by simp [OI,hb]) hN (md' := md') (hmd := hmd) kk
theorem Bz {t el e:TypeId}{x:Operand}{hi:Option Operand}[ht:SlT P t el] [he:SzT P el e] (hx:ev (lk ts) x = some (.v (.slice none 0 0))) (hh:gC (lk ts) hi 0 = some 0) (hN:Nat.blt d N = true)
  (kk : RW P N all Q .txt rest ⟨(d,.v (.slice none 0 0)) :: ts,hs,n,z0⟩) : RW P N all Q .txt (⟨some d,.slice t x none hi none,ty,pos,af,none⟩ :: rest) ⟨ts,hs,n,z0⟩ := by
 refine dJ (out := .v (.slice none 0 0)) (rs := rO x ++ rB hi) rfl rfl (cS hN) (fun C ι F T H a w ag g gh => ?_) kk
 have h1 := bV g (ag.l.ev.trans hx)
 simp only [Rd] at h1
 have hu := iB ht.pf
 have hr := g8 (P := P) (w := w) (is := true) (cap := 0) g (lo := none) (hi := hi) (l := 0) (h := 0) (n := 0) rfl (ag.r.bnd.trans hh) (Nat.le_refl _) (Nat.le_refl _) (Nat.le_refl _)
 rw [show Option.map a.eval (none : Option Operand) = none from rfl] at hr
 refine ⟨.slice none 0 0,?_,by simp only [Rd]⟩
 simp [execOp,h1,Instr.sliceAt,bW hu,Instr.slice,hr,fF he.pf]
end
theorem Le.cut {ts:List (Nat × AV)}{hs:List (Nat × Option (List AV))}{n:Nat}{z0:Lo}{i:Nat}{cs:List AV}(k:Nat) (hi:aV hs i = some cs) :
  Le ⟨ts,hs,n,z0⟩ ⟨ts,(i,some (cs.take k)) :: hs,n,z0⟩ := by
 rintro C a w ⟨h0,ι,g,gh⟩
 have hσ : ∀ id c, aV ((i, some (cs.take k)) :: hs) id = some c → ∃ c0, aV hs id = some c0 ∧ (c = c0 ∨ c = c0.take k) := by
  intro id c h
  rw [cQ] at h
  split at h
  ·rename_i e;subst e;cases h;exact ⟨cs,hi,.inr rfl⟩
  ·exact ⟨c,h,.inl rfl⟩
 have car : Carry w (aL C.X ι (aV hs)) ι w (aL C.X ι (aV ((i, some (cs.take k)) :: hs))) ι := by
  refine ⟨fun b o' x h1 h2 => ⟨?_,h2⟩,fun _ _ h => h,fun _ => Nat.le_refl _⟩
  rintro (h | ⟨id,c,β,q1,q2⟩)
  ·exact h1 (.inl h)
  ·obtain ⟨c0, r, _⟩ := hσ id c q1
   exact h1 (.inr ⟨id,c0,β,r,q2⟩)
 refine ⟨h0,ι,⟨g.df,g.sz,fun t av ht => ?_⟩,⟨fun id c h => ?_,fun id id' c c' b β β' q1 q2 q3 q4 => ?_,gh.fr,gh.ex,gh.fresh⟩⟩
 ·obtain ⟨y, hy, hr⟩ := g.tm t av ht
  exact ⟨y,hy,Rd.carry car _ _ hr⟩
 ·obtain ⟨c0, r, e⟩ := hσ id c h
  rcases gh.obj id c0 r with ⟨h1,h2⟩ | ⟨b',β',arr',e',h1,h2,h3,h4,h5,h6⟩
  ·refine .inl ⟨h1, ?_⟩
   rcases e with e|e
   ·rw [e,h2]
   ·rw [e,h2]; simp
  ·refine .inr ⟨b', β', arr', e', h1, h2, ?_, ?_, h5, h6⟩
   ·rcases e with e | e
    ·rw [e]; exact h3
    ·rw [e,List.length_take]; omega
   ·have h7 := RdC.carryB car _ _ _ (fun o x hx => hx) h4
    rcases e with e|e
    ·rw [e]; exact h7
    ·rw [e]; exact RdC.take k h7
 ·obtain ⟨_, r1, _⟩ := hσ id c q1
  obtain ⟨_,r2,_⟩ := hσ id' c' q2
  exact gh.sep _ _ _ _ _ _ _ r1 r2 q3 q4
def Sq (l : List Int) : List AV := [sl cI l]
instance : FlT Sq 1:=⟨fun _ => rfl⟩
instance : FE Sq (fun l => [sl cI l]):=⟨fun _ => rfl⟩
instance (l : List Int) : Pur (Sq l):=⟨by show (AV.pur (sl cI l) && true) = true;rw [Bool.and_true]; exact bF cI l⟩
section
variable {P : Program} {N : Nat} {Q : Exit → AS → Prop} {all : Array Oper} {rest : List Oper} {ts : List (Nat × AV)} {hs : List (Nat × Option (List AV))} {n : Nat} {z0 : Lo}
variable {d : Nat} {ty : TypeId} {pos : String} {af : Array Edge}
theorem fP {fn:Go.Fn}{cs:Array Operand}{i:Nat}{cc c:List AV}(t:Nat) (hx:lk ts t = some (.optr i 0)) (hH:aV hs i = some cc) (hc:evL (lk ((t,.iptr cc) :: ts)) cs.toList = some c) (hN:Nat.blt d N = true)
  (kk : RW P N all Q .txt rest ⟨(d,.clos fn [] c) :: (t,.iptr cc) :: ts,(i,none) :: hs,n,z0⟩) : RW P N all Q .txt (⟨some d,.makeFunc fn #[] cs,ty,pos,af,none⟩ :: rest) ⟨ts,hs,n,z0⟩ :=
 c5 (nL (f := []) (c := c) rfl hc hN (md' := .txt) kk) (Le.frzP hx hH)
end
theorem OV {P:Program}{C:Ctx}{ι:Pl}{F':Nat → Prop}{H:Nat → Option (List AV)}{a:Act}{w:World}{o:Oper}{id m e:Nat}{cs:List AV}
  (h : Ef P C ι F' H a w o (.own id 0 m e) (dW H id (some cs))) : Ef P C ι F' H a w o (.imm m cs) (dW H id none) := by
 obtain ⟨n,y,ι',w',h1,h2,h3,h4⟩ := h
 obtain ⟨g, c⟩ := h3.less (F' := F') (H' := dW H id none) (fun j c hj => by
  by_cases e1 : j = id
  ·subst e1;simp at hj
  ·rw [bG _ _ e1] at hj ⊢; exact hj) (fun _ h => h)
 refine ⟨n,y,ι',w',h1,?_,g,h4.trans c⟩
 rcases h2 with ⟨e1,hr⟩ | ⟨_,_,e3⟩
 ·refine .inl ⟨e1, ?_⟩
  have hi : dW H id (some cs) id = some cs := upd_same _ _ _
  simp only [Rd] at hr ⊢
  rcases hr with ⟨_,h2,a',h3'⟩ | ⟨b,β,c',q1,q2,q3,q4⟩
  ·subst h2;exact ⟨a',0,h3',.inl rfl⟩
  ·refine ⟨_, c', q2, ?_⟩
   rcases Nat.eq_zero_or_pos m with h5|h5
   ·exact .inl h5
   ·refine .inr ⟨b, β + 0, q3, rfl, ?_⟩
    rcases h3.obj id cs hi with ⟨r1,r2⟩ | ⟨b',β',arr,e',r1,r2,r3,r4,r5,r6⟩
    ·rw [q1] at r1;cases r1
    ·rw [q1] at r1; cases r1
     refine .inr ⟨?_,RdC.carryB c _ _ _ (fun o x hx => hx) r4⟩
     rintro (h | ⟨id',cs',β',s1,s2⟩)
     ·exact r5 h
     ·by_cases e1 : id' = id
      ·subst e1;simp at s1
      ·rw [bG _ _ e1] at s1
       exact e1 (h3.sep _ _ _ _ _ _ _ (by rw [bG _ _ e1]; exact s1) hi s2 q1)
 ·cases e3
section
variable {P : Program} {N : Nat} {Q : Exit → AS → Prop} {all : Array Oper} {rest : List Oper} {ts : List (Nat × AV)} {hs : List (Nat × Option (List AV))} {n : Nat} {z0 : Lo} {md : Md}
variable {d : Nat} {ty : TypeId} {pos : String} {af : Array Edge}
theorem wY {t el len e:Nat}{parts:Array (Nat × Operand)}{zs:List Value}{l:List (Nat × AV)}{cs:List AV}[ht:SlT P t el] [he:SzT P el e] [hz:ZrT P el zs] (hze:zs.length = e) (hsm:Nat.ble (len * e) 16777216 = true)
  (hl : evs (lk ts) parts.toList = some l) (hfl : jA (fun i => some (i * e,e)) ((List.replicate len (zs.map .v)).flatten) l = some cs) (hM : Nat.blt n a6 = true) (hN : Nat.blt d N = true) {md' : Md} [hmd : MdA md (ID parts.toList) [.inr n,.inl d] md']
  (kk : RW P N all Q md' rest ⟨(d,.imm len cs) :: ts,(n,none) :: hs,n + 1,z0⟩) :
  RW P N all Q md (⟨some d,.buildSlice t len parts,ty,pos,af,none⟩ :: rest) ⟨ts,hs,n,z0⟩ :=
 BH (rs := ID parts.toList) (ws := [(n, none)]) (n' := n + 1) (out := .imm len cs) rfl (fun x h => by cases h; exact cS hN) (Nat.le_succ n) (.inr (cS hM))
  (fun C ι F T H a w ag hF g gh => Et (OV (oP g gh rfl ht.pf he.pf hz.pf hze (by simpa using hsm) (ag.evs.trans hl) hfl (hF n (Nat.le_refl n) (Nat.lt_succ_self n))))) (by rw [show md.add (ID parts.toList) ([(n,(none : Option (List AV)))].map (fun p => .inr p.1) ++ wD (some d)) = md' from hmd.pf]; exact kk)
end
theorem pX {xs ys:List Int}{m:Nat}(hm:m = xs.length):((flat cI xs).drop 0).take (m * 1) ++ flat cI ys = flat cI (xs ++ ys):=by
 subst hm
 have h : (flat cI xs).length = xs.length * 1 := aI cI xs
 rw [List.drop_zero,List.take_of_length_le (by omega)]
 simp [flat]
theorem IS {hs:List (Nat × Option (List AV))}{id m e':Nat}{u:List Int}(h:aV hs id = some (flat cI u)) (hm:m = u.length):sCells (aV hs) 1 (rD (.own id 0 m e')) = some (m,flat cI u):=by
 subst hm
 have hl : (flat cI u).length = u.length * 1 := aI cI u
 show ((aV hs id).bind fun cs => if u.length * 1 ≤ (cs.drop 0).length then some (u.length,(cs.drop 0).take (u.length * 1)) else none) = _
 rw [h]
 show (if u.length * 1 ≤ ((flat cI u).drop 0).length then some (u.length,((flat cI u).drop 0).take (u.length * 1)) else none) = _
 rw [List.drop_zero,if_pos (by omega),List.take_of_length_le (by omega)]
theorem wQ {f:Nat}{E:List (Nat × Nat)}{h:Nat}(hh:h < (lE f E).length):fV f E h = ((lE f E)[h]!:Int) :: fV f E (h + 1):=by
 unfold fV
 rw [List.drop_eq_getElem_cons hh,List.map_cons,aZ _ _ hh]
theorem x5 {f:Nat}{E:List (Nat × Nat)}{h:Nat}:fV f E h = [] ↔ (lE f E).length ≤ h:=by
 unfold fV
 rw [List.map_eq_nil_iff,List.drop_eq_nil_iff]
theorem oF (f:Nat) (E:List (Nat × Nat)) (h:Nat):(fV f E h).length = E.length + 1 - h:=by
 unfold fV;rw [List.length_map,List.length_drop,gO]
theorem yK {f:Nat}{E:List (Nat × Nat)}{h k a:Nat}(hh:h ≤ (lE f E).length):fV f (E ++ [(k,a)]) h = fV f E h ++ [(k:Int)]:=by
 unfold fV
 have : lE f (E ++ [(k,a)]) = lE f E ++ [k] := by unfold lE;simp
 rw [this,List.drop_append_of_le_length hh]; simp
theorem zW {E:List (Nat × Nat)}{a k:Nat}(h:iP E k < 0):HX E a k = E ++ [(k,a)] := by unfold HX;rw [if_pos h]
theorem EV {E:List (Nat × Nat)}{a k:Nat}(h:0 ≤ iP E k):HX E a k = E := by unfold HX;rw [if_neg (by omega)]
structure CS (pts : List Pnt) (f t : Nat) (E : List (Nat × Nat)) (x : Nat) (R : List (Nat × Nat)) (v : List Int) : Prop where
 suf : R <:+ E.reverse
 mem : x ≠ f → x ∈ R.map (·.1)
 eq : eV (eJ pts f t) = eV (Qs f R x) ++ v
 len : v.length + R.length ≤ E.length
 xl : x < pts.length
section
variable {pts : List Pnt} {f t : Nat} (w : ∀ i,i < pts.length → ∀ k ∈ pts[i]!.next,0 ≤ k ∧ k < pts.length) (hf : f < pts.length)
include w hf
theorem CS.start {E:List (Nat × Nat)}(hE:E <+: nN pts f) (ht:0 ≤ iP E t):BI pts f E ∧ ∃ (a:Nat) (R:List (Nat × Nat)),iP E t = (a:Int) ∧ CS pts f t E a R [(t:Int)]:=by
 obtain ⟨e,I⟩ := ON w hf hE ht
 refine ⟨I,?_⟩
 obtain ⟨a,R,h1,h2,h3,h4,h5⟩ := nJ I (List.suffix_refl _) (by rw [List.map_reverse,List.mem_reverse]; exact fE.1 ht : t ∈ E.reverse.map (·.1))
 refine ⟨a,R,h1,h2,h5,?_,by rw [List.length_reverse] at h3;simp;omega,?_⟩
 ·rw [e,h4]; simp [eV]
 ·by_cases h : a = f
  ·rw [h]; exact hf
  ·obtain ⟨x, hx, rfl⟩ := List.mem_map.1 (h5 h)
   have : x ∈ E := by rw [← List.mem_reverse]; exact h2.subset hx
   exact ((I.le w).2 x this).1
theorem CS.step {E R:List (Nat × Nat)}{x:Nat}{v:List Int}(I:BI pts f E) (c:CS pts f t E x R v) (hx:x ≠ f):∃ (a:Nat) (R':List (Nat × Nat)),iP E x = (a:Int) ∧ CS pts f t E a R' ((x:Int) :: v) ∧ R'.length < R.length:=by
 obtain ⟨a,R',h1,h2,h3,h4,h5⟩ := nJ I c.suf (c.mem hx)
 refine ⟨a,R',h1,⟨h2,h5,?_,by have := c.len;simp;omega,?_⟩,h3⟩
 ·rw [c.eq]; unfold Qs at h4 ⊢; rw [if_neg hx,h4]; simp [eV]
 ·by_cases h : a = f
  ·rw [h]; exact hf
  ·obtain ⟨x, hx, rfl⟩ := List.mem_map.1 (h5 h)
   have : x ∈ E := by rw [← List.mem_reverse]; exact h2.subset hx
   exact ((I.le w).2 x this).1
end
theorem CS.fin {pts:List Pnt}{f t:Nat}{E R:List (Nat × Nat)}{v:List Int}(c:CS pts f t E f R v):eV (eJ pts f t) = (f:Int) :: v:=by
 rw [c.eq]; unfold Qs;rw [if_pos rfl]; rfl
theorem c6 (l:List Nat):(eV l).length = l.length := by unfold eV;simp
theorem zF {W:Nat → List Nat}{U:Nat → Bool}{i:Nat}(h:U i = false ∨ W i = []):kW W U (i + 1) = kW W U i:=by
 rw [kW,if_neg]
 rintro ⟨h1,h2,_⟩
 rcases h with h|h
 ·rw [h] at h1;cases h1
 ·exact h2 h
theorem uB {W:Nat → List Nat}{U:Nat → Bool}{i:Nat}(h1:U i = true) (h2:W i ≠ []) (h3:(kW W U i).1 < 0 ∨ (W i).length < (kW W U i).2.length):kW W U (i + 1) = ((i:Int),W i):=by
 rw [kW,if_pos ⟨h1,h2,h3⟩]
theorem E7 {W:Nat → List Nat}{U:Nat → Bool}{i:Nat}(h3:0 ≤ (kW W U i).1) (h4:(kW W U i).2.length ≤ (W i).length):kW W U (i + 1) = kW W U i:=by
 rw [kW,if_neg]
 rintro ⟨_,_,h5⟩
 omega
theorem Fi {pts:List Pnt}{f x:Nat}(w:∀ i,i < pts.length → ∀ k ∈ pts[i]!.next,0 ≤ k ∧ k < pts.length) (hf:f < pts.length) (h:0 ≤ iP (nN pts f) x):eJ pts f x ≠ [] := (jX w hf).2 ((gI w hf x).1 h)
theorem F8 {pts:List Pnt}{f x:Nat}(h:iP (nN pts f) x < 0):eJ pts f x = [] := by unfold eJ;rw [if_neg (by omega)]
theorem FU {pts:List Pnt}{f:Nat}{E:List (Nat × Nat)}(I:BI pts f E):∀ n R x,R.length ≤ n → R <:+ E.reverse → x ∈ R.map (·.1) → (Dd f R x).length ≤ R.length + 1
 | n, R, x, hn, hR, hx => by
  obtain ⟨a,R',_,h2,h3,h4,h5⟩ := nJ I hR hx
  rw [h4]
  unfold Qs
  by_cases e : a = f
  ·rw [if_pos e]; simp;omega
  ·rw [if_neg e]
   cases n with
   | zero => omega
   | succ n =>
    have := FU I n R' a (by omega) h2 (h5 e)
    rw [List.length_append,List.length_singleton]; omega
theorem iE {pts:List Pnt}{f x:Nat}(w:∀ i,i < pts.length → ∀ k ∈ pts[i]!.next,0 ≤ k ∧ k < pts.length) (hf:f < pts.length):(eJ pts f x).length ≤ pts.length + 1:=by
 unfold eJ
 split
 ·rename_i h
  have I : BI pts f (nN pts f) := oL w hf _
  have := FU I _ _ _ (Nat.le_refl _) (List.suffix_refl _) (by rw [List.map_reverse,List.mem_reverse]; exact fE.1 h : x ∈ (nN pts f).reverse.map (·.1))
  have h2 := (I.le w).1
  rw [List.length_reverse] at this;omega
 ·simp
theorem Js (ts:List Int) (pts:List Pnt) (Af:List Nat) (loan i:Nat) (hn:ts.length ≤ 6):((a8 (wS ts pts[i]! [1,2,3])).any fun v => (dA Af i)[v.toNat]!.testBit loan) = eT ts pts Af loan i:=by
 rw [Bool.eq_iff_iff,List.any_eq_true]
 unfold eT
 rw [List.any_eq_true]
 constructor
 ·rintro ⟨z, hz, h2⟩
  obtain ⟨v,h3,h4,rfl⟩ := cK.1 hz
  rw [cD] at h4
  simp only [Bool.and_eq_true,decide_eq_true_eq] at h4
  refine ⟨v,List.mem_range.2 h4.1,?_⟩
  rw [Int.toNat_natCast] at h2
  rw [h2,Bool.and_true,decide_eq_true_eq]
  intro h0;rw [h0] at h4;simp at h4
 ·rintro ⟨v, hv, h2⟩
  simp only [Bool.and_eq_true,decide_eq_true_eq,List.mem_range] at h2 hv
  have := nB ts pts[i]! v
  refine ⟨(v : Int),cK.2 ⟨v,by omega,?_,rfl⟩,by rw [Int.toNat_natCast]; exact h2.2⟩
  rw [cD]
  simp only [Bool.and_eq_true,decide_eq_true_eq,List.mem_cons,List.not_mem_nil,or_false]
  omega
structure RI (pts : List Pnt) (a : Nat) (F : List Bool) (T : List Int) : Prop where
 len : F.length = pts.length
 src : ∀ k ∈ pts[a]!.next,F[k.toNat]! = true ∨ k ∈ T
 cl : ∀ i,i < pts.length → F[i]! = true → ∀ k ∈ pts[i]!.next,F[k.toNat]! = true ∨ k ∈ T
 snd : ∀ i,i < pts.length → F[i]! = true → Wy pts a i
 tw : ∀ k ∈ T,0 ≤ k ∧ k < pts.length ∧ Wy pts a k.toNat
def DY (F : List Bool) (T : List Int) : Nat := 3 * F.countP (fun b => !b) + T.length
theorem RI.start {pts:List Pnt}{a:Nat}(w:∀ i,i < pts.length → ∀ k ∈ pts[i]!.next,0 ≤ k ∧ k < pts.length) (ha:a < pts.length):RI pts a (List.replicate pts.length false) pts[a]!.next:=by
 have h0 : ∀ i, (List.replicate pts.length false)[i]! = true → False := fun i h => by
  by_cases hi : i < pts.length
  ·rw [aZ _ i (by simpa using hi)] at h;simp at h
  ·rw [getElem!_neg _ i (by simpa using hi)] at h;cases h
 exact ⟨by simp, fun k hk => .inr hk, fun i hi h => (h0 i h).elim, fun i hi h => (h0 i h).elim, fun k hk =>
  ⟨(w a ha k hk).1,(w a ha k hk).2,.base ⟨ha,by rw [Int.toNat_of_nonneg (w a ha k hk).1]; exact hk⟩⟩⟩
theorem RI.vis {pts:List Pnt}{a:Nat}{F:List Bool}{T T':List Int}{k:Int}(I:RI pts a F T) (h1:∀ x ∈ T,x = k ∨ x ∈ T') (h2:∀ x ∈ T',x ∈ T) (hF:F[k.toNat]! = true):RI pts a F T':=by
 have key : ∀ x, F[x.toNat]! = true ∨ x ∈ T → F[x.toNat]! = true ∨ x ∈ T' := fun x h => by
  rcases h with h|h
  ·exact .inl h
  ·rcases h1 x h with rfl | h
   ·exact .inl hF
   ·exact .inr h
 exact ⟨I.len,fun x hx => key x (I.src x hx),fun i hi h x hx => key x (I.cl i hi h x hx),I.snd,fun x hx => I.tw x (h2 x hx)⟩
theorem RI.new {pts:List Pnt}{a:Nat}(w:∀ i,i < pts.length → ∀ k ∈ pts[i]!.next,0 ≤ k ∧ k < pts.length){F:List Bool}{T T':List Int}{k:Int}(I:RI pts a F T) (hk:k ∈ T) (h1:∀ x ∈ T,x = k ∨ x ∈ T') (h2:∀ x ∈ pts[k.toNat]!.next,x ∈ T') (h3:∀ x ∈ T',x ∈ T ∨ x ∈ pts[k.toNat]!.next) :
  RI pts a (F.set k.toNat true) T' := by
 have hkl := I.tw k hk
 have hl := I.len
 have mono : ∀ i : Nat, F[i]! = true → (F.set k.toNat true)[i]! = true := fun i h => by
  rw [aP]; split
  ·rfl
  ·exact h
 have hkk : (F.set k.toNat true)[k.toNat]! = true := by rw [aP,if_pos ⟨rfl,by omega⟩]
 have key : ∀ x, F[x.toNat]! = true ∨ x ∈ T → (F.set k.toNat true)[x.toNat]! = true ∨ x ∈ T' := fun x h => by
  rcases h with h|h
  ·exact .inl (mono _ h)
  ·rcases h1 x h with rfl | h
   ·exact .inl hkk
   ·exact .inr h
 have hold : ∀ i, (F.set k.toNat true)[i]! = true → i = k.toNat ∨ F[i]! = true := fun i h => by
  rw [aP] at h;split at h
  ·rename_i e;exact .inl e.1.symm
  ·exact .inr h
 refine ⟨by rw [List.length_set]; exact hl,fun x hx => key x (I.src x hx),fun i hi h x hx => ?_,fun i hi h => ?_,fun x hx => ?_⟩
 ·rcases hold i h with rfl | h
  ·exact .inr (h2 x hx)
  ·exact key x (I.cl i hi h x hx)
 ·rcases hold i h with rfl | h
  ·exact hkl.2.2
  ·exact I.snd i hi h
 ·rcases h3 x hx with h | h
  ·exact I.tw x h
  ·have := w _ (by omega) x h
   exact ⟨this.1,this.2,.step hkl.2.2 ⟨by omega,by rw [Int.toNat_of_nonneg this.1]; exact h⟩⟩
theorem RI.fin {pts:List Pnt}{a:Nat}{F F0:List Bool}(I:RI pts a F []) (hF:GoodR pts a F0) (w:∀ i,i < pts.length → ∀ k ∈ pts[i]!.next,0 ≤ k ∧ k < pts.length):F = F0:=by
 refine bU (by rw [I.len,hF.l]) fun i hi => ?_
 rw [I.len] at hi
 rw [Bool.eq_iff_iff,hF.g i hi]
 refine ⟨I.snd i hi,fun h => ?_⟩
 have := Clo.sub (T := fun k => F[k]! = true) (fun k he => ?_) (fun x y hx he => ?_) i h
 ·exact this
 ·rcases I.src _ he.2 with h | h
  ·simpa using h
  ·cases h
 ·rcases I.cl x he.1 hx _ he.2 with h | h
  ·simpa using h
  ·cases h
theorem Oh {F:List Bool}{k:Nat}(hk:k < F.length) (h:F[k]! = false) (T:List Int):DY (F.set k true) T + 3 = DY F T:=by
 unfold DY
 have h1 : F[k] = false := by rw [← aZ F k hk]; exact h
 have h2 : 0 < F.countP (fun b => !b) := List.countP_pos_iff.2 ⟨F[k],List.getElem_mem hk,by rw [h1]; rfl⟩
 rw [List.countP_set hk,h1]; simp;omega
theorem Mu (F:List Bool) (T:List Int):T.length ≤ DY F T := by unfold DY;omega
theorem LU (F:List Bool) (T S:List Int):DY F (T ++ S) = DY F T + S.length := by unfold DY;rw [List.length_append]; omega
theorem GK {n:Nat}{T:List Int}(hn:n ≤ 61) (hT:T.length ≤ 2):DY (List.replicate n false) T ≤ 200:=by
 unfold DY
 have : (List.replicate n false).countP (fun b => !b) ≤ n := Nat.le_trans List.countP_le_length (by simp)
 omega
theorem Jq (E:List (Nat × Nat)) (a:Nat) (A B:List Int):jZ E a (A ++ B) = jZ (jZ E a A) a B := by unfold jZ;rw [List.foldl_append]
theorem Hp (E:List (Nat × Nat)) (a:Nat) (L:List Int) (k:Nat):jZ E a (L.take k) <+: jZ E a L:=by
 have : jZ E a L = jZ (jZ E a (L.take k)) a (L.drop k) := by rw [← Jq,List.take_append_drop]
 rw [this]; exact iO _ _ _
theorem Jz {pts:List Pnt}{f h a:Nat}(hlt:h < (lE f (kE pts f h)).length) (ha:a = (lE f (kE pts f h))[h]!):kE pts f (h + 1) = jZ (kE pts f h) a pts[a]!.next:=by
 rw [kE,if_pos hlt,← ha]
theorem MB (a b:List Nat):eV (a ++ b) = eV a ++ eV b := by unfold eV;simp
theorem KB {T:List Int}{m:Nat}:(flat cI T).take m = flat cI (T.take m):=by
 have := dL cI (e := 1) T m;rw [Nat.mul_one] at this;exact this
theorem JY {T:List Int}{m:Nat}(hm:m = T.length) (h:0 < m):T[m - 1]! ∈ T ∧ ∀ x ∈ T,x = T[m - 1]! ∨ x ∈ T.take (m - 1):=by
 subst hm
 refine ⟨aU _ _ (by omega),fun x hx => ?_⟩
 have e : T = T.take (T.length - 1) ++ [T[T.length - 1]!] := by
  rw [← bE T _ (by omega),show T.length - 1 + 1 = T.length by omega,List.take_length]
 rw [e] at hx
 rcases List.mem_append.1 hx with h|h
 ·exact .inr h
 ·exact .inl (List.mem_singleton.1 h)
theorem Mj {W:Nat → List Nat}{U:Nat → Bool}{m:Nat}(h:∀ j,(W j).length ≤ m) (i:Nat):(kW W U i).2.length ≤ m:=by
 rcases qK W U i with ⟨_,e⟩ | ⟨j,_,_,_,e,_⟩
 ·rw [e]; exact Nat.zero_le _
 ·rw [e]; exact h j
theorem Ib {pts:List Pnt}{f:Nat}(w:∀ i,i < pts.length → ∀ k ∈ pts[i]!.next,0 ≤ k ∧ k < pts.length) (hf:f < pts.length){U:Nat → Bool}{i:Nat}{bl:List Int}(hbl:bl = eV (kW (eJ pts f) U i).2) (h0:bl.length ≠ 0) :
  bl[((bl.length : Int) - 1).toNat]! = (kW (eJ pts f) U i).1 ∧ 0 ≤ (kW (eJ pts f) U i).1 := by
 rcases qK (eJ pts f) U i with ⟨_,e⟩ | ⟨j,_,e1,_,e,hn⟩
 ·rw [hbl,e] at h0;exact absurd rfl h0
 ·refine ⟨?_, by omega⟩
  obtain ⟨T,hT⟩ := pR w hf ((gI w hf j).2 ((jX w hf).1 hn))
  rw [e1]
  have eb : bl = eV (f :: T) ++ [(j : Int)] := by rw [hbl,e,hT,← List.cons_append,MB]; rfl
  have el : ((bl.length : Int) - 1).toNat = (eV (f :: T)).length := by rw [eb]; simp
  rw [el,eb,fQ,if_neg (by omega),Nat.sub_self]; rfl
theorem Ns {W:Nat → List Nat}{U:Nat → Bool}{i:Nat}:((kW W U i).1 < 0 ∧ (kW W U i).2.length = 0) ∨ (0 ≤ (kW W U i).1 ∧ 0 < (kW W U i).2.length):=by
 rcases qK W U i with ⟨e1,e⟩ | ⟨j,_,e1,_,e,hn⟩
 ·rw [e,e1]; exact .inl ⟨by decide,rfl⟩
 ·rw [e,e1]; exact .inr ⟨by omega,List.length_pos_iff.2 hn⟩
theorem Rch.wy {pts:List Pnt}(r:Rch pts):∀ n t,t ≤ n → 0 < t → t < pts.length → Wy pts 0 t
 | n, t, hn, h0, ht => by
  obtain ⟨j,hj,e⟩ := r t h0 ht
  by_cases hz : j = 0
  ·subst hz;exact .base e
  ·cases n with
   | zero => omega
   | succ n => exact .step (r.wy n j (by omega) (by omega) e.1) e
def y0 (pts : List Pnt) (t : Nat) : List Nat := if t = 0 then [0] else eJ pts 0 t
theorem Cy {pts:List Pnt}(w:∀ i,i < pts.length → ∀ k ∈ pts[i]!.next,0 ≤ k ∧ k < pts.length) (r:Rch pts){t:Nat}(ht:t < pts.length):∃ T,y0 pts t = 0 :: T:=by
 unfold y0
 by_cases h : t = 0
 ·rw [if_pos h]; exact ⟨[],rfl⟩
 ·rw [if_neg h]
  obtain ⟨T,e⟩ := pR w (by omega) ((gI w (by omega) t).2 (r.wy t t (Nat.le_refl _) (by omega) ht))
  exact ⟨_,e⟩
theorem uG {pts:List Pnt}(w:∀ i,i < pts.length → ∀ k ∈ pts[i]!.next,0 ≤ k ∧ k < pts.length) (h0:0 < pts.length) (t:Nat):(y0 pts t).length ≤ pts.length + 1:=by
 unfold y0;split
 ·simp
 ·exact iE w h0
end Go.AL
namespace Go.AL
def Chn (pts : List Pnt) : List Nat → Prop
 | [] => True
 | [_] => True
 | a :: b :: l => cF pts a b ∧ Chn pts (b :: l)
theorem Chn.snoc {pts:List Pnt}{a x:Nat}(e:cF pts a x):∀ T:List Nat,Chn pts (T ++ [a]) → Chn pts (T ++ [a] ++ [x])
 | [],_ => ⟨e,trivial⟩
 | [b],h => ⟨h.1,e,trivial⟩
 | b :: c :: T,h => ⟨h.1,Chn.snoc e (c :: T) h.2⟩
theorem Chn.join {pts:List Pnt}{x:Nat}{B:List Nat}(h2:Chn pts (x :: B)):∀ A:List Nat,Chn pts (A ++ [x]) → Chn pts (A ++ [x] ++ B)
 | [],_ => h2
 | [b],h => ⟨h.1,h2⟩
 | b :: c :: A,h => ⟨h.1,Chn.join h2 (c :: A) h.2⟩
theorem Chn.at {pts:List Pnt}:∀ (W:List Nat) (i:Nat),Chn pts W → i + 1 < W.length → cF pts W[i]! W[i + 1]!
 | [],_,_,h => by simp at h
 | [_],i,_,h => by simp at h
 | a :: b :: l,0,hc,h => hc.1
 | a :: b :: l, i + 1, hc, h => by
  have := Chn.at (b :: l) i hc.2 (by simpa using h)
  exact this
theorem M7 {E:List (Nat × Nat)}{k a:Nat}(h:iP E k = (a:Int)):(k,a) ∈ E:=by
 unfold iP at h
 cases q : E.find? (fun e => e.1 == k) with
 | none => rw [q] at h;dsimp only at h;omega
 | some e =>
  rw [q] at h;dsimp only at h
  have h1 := List.find?_some q
  have h2 := List.mem_of_find?_eq_some q
  simp only [beq_iff_eq] at h1
  have e2 : e = (k,a) := by rw [← h1,show a = e.2 by omega]
  rw [← e2]; exact h2
theorem Fb {pts:List Pnt}{f:Nat}{E:List (Nat × Nat)}(I:BI pts f E):∀ n R x,R.length ≤ n → R <:+ E.reverse → x ∈ R.map (·.1) → Chn pts (Dd f R x) ∧ ∃ T,Dd f R x = T ++ [x]
 | n, R, x, hn, hR, hx => by
  obtain ⟨a,R',h1,h2,h3,h4,h5⟩ := nJ I hR hx
  have he := I.ed _ (M7 h1)
  rw [h4]
  refine ⟨?_,_,rfl⟩
  unfold Qs
  by_cases e : a = f
  ·rw [if_pos e]; subst e;exact ⟨he,trivial⟩
  ·rw [if_neg e]
   cases n with
   | zero => omega
   | succ n =>
    obtain ⟨hc,T,hT⟩ := Fb I n R' a (by omega) h2 (h5 e)
    rw [hT] at hc ⊢
    exact Chn.snoc he T hc
section
variable {pts : List Pnt} (w : ∀ i,i < pts.length → ∀ k ∈ pts[i]!.next,0 ≤ k ∧ k < pts.length)
include w
theorem z2 {f x:Nat}(hf:f < pts.length) (h:eJ pts f x ≠ []):Chn pts (eJ pts f x) ∧ ∃ T,eJ pts f x = f :: (T ++ [x]):=by
 have h0 : 0 ≤ iP (nN pts f) x := (gI w hf x).2 ((jX w hf).1 h)
 refine ⟨?_,pR w hf h0⟩
 unfold eJ
 rw [if_pos h0]
 exact (Fb (oL w hf _) _ _ _ (Nat.le_refl _) (List.suffix_refl _) (by rw [List.map_reverse,List.mem_reverse]; exact fE.1 h0)).1
theorem E5 (r:Rch pts){t:Nat}(ht:t < pts.length):Chn pts (y0 pts t) ∧ ∃ A,y0 pts t = A ++ [t]:=by
 unfold y0
 by_cases h : t = 0
 ·rw [if_pos h]; subst h;exact ⟨trivial,[],rfl⟩
 ·rw [if_neg h]
  obtain ⟨h1,T,e⟩ := z2 w (f := 0) (x := t) (by omega) ((jX w (by omega)).2 (r.wy t t (Nat.le_refl _) (by omega) ht))
  exact ⟨h1,0 :: T,by rw [e]; rfl⟩
theorem H7 (r:Rch pts){l a u:Nat}(ha:a < pts.length) (hl:l < pts.length) (h2:eJ pts l a ≠ []) (h3:eJ pts a u ≠ []):Chn pts (y0 pts l ++ (eJ pts l a).drop 1 ++ (eJ pts a u).drop 1):=by
 obtain ⟨c1,A,e1⟩ := E5 w r hl
 obtain ⟨c2,B,e2⟩ := z2 w hl h2
 obtain ⟨c3,C,e3⟩ := z2 w ha h3
 rw [e1] at c1 ⊢
 rw [e2] at c2 ⊢
 rw [e3] at c3 ⊢
 have h4 := Chn.join c2 A c1
 have h5 : Chn pts ((A ++ [l] ++ B) ++ [a]) := by simpa using h4
 have h6 := Chn.join c3 _ h5
 simpa using h6
end
theorem Dh {ts:List Int}{v:Int}(h:0 < fK ts v):fK ts v = ts[v.toNat]!:=by
 unfold fK at h ⊢
 split at h
 ·rename_i c;rw [if_pos c]
 ·omega
end Go.AL
namespace Go.AL
def JZ (a b : Iss) : Bool := a.point == b.point && (a.kind == b.kind && a.with_ == b.with_)
theorem tT (a b:Iss):JZ a b = true ↔ a = b:=by
 unfold JZ
 simp only [Bool.and_eq_true,beq_iff_eq]
 constructor
 ·rintro ⟨h1,h2,h3⟩; cases a;cases b;simp only at h1 h2 h3;rw [h1,h2,h3]
 ·rintro rfl;exact ⟨rfl,rfl,rfl⟩
end Go.AL
namespace Go.AL
open Go.RowKit
section
variable {P : Program} {C : Ctx} {ι : Pl} {T : Nat → Option AV} {F : Nat → Prop} {H : Nat → Option (List AV)} {a : Act} {w : World} {o : Oper}
theorem CZ {bad:Nat → Prop}{zs:List Value}(h:zs.all (·.oneCell') = true):∀ n,RdL w bad ι (List.replicate n (zs.map AV.v)).flatten (List.replicate n zs).flatten
 | 0 => by simp [RdL]
 | n + 1 => by
  rw [List.replicate_succ,List.replicate_succ,List.flatten_cons,List.flatten_cons]
  exact RdL.append (sK h) (CZ h n)
theorem Jj (gh:HG C ι F H w){t el:TypeId}{x:Operand}{id off n e:Nat}{cs:List AV}{zs:List Value}
  (ho : o.op = .call ⟨.builtin .clear,#[x],#[t]⟩) (hx : Rd w (aL C.X ι H) ι (.own id off n e) (a.eval x)) (hd : o.dst = none)
  (ht : mI P t = some el) (he : fN P el = some e) (hz : pC P el = some zs) (hze : zs.length = e)
  (hH : H id = some cs) (h0 : 0 < n) (hl : off + n * e ≤ cs.length) :
  Ef P C ι F H a w o (.tup []) (dW H id (some (g6 cs off (List.replicate n (zs.map AV.v)).flatten))) := by
 obtain ⟨i,z,h1,h2,h3,h4⟩ := pF hz
 have hu := iB ht
 have hsz := wV he h1
 simp only [Rd] at hx
 rcases hx with ⟨_,rfl,_⟩ | ⟨b,β,c,p1,p2,p3,p4⟩
 ·omega
 have hlen : ((List.replicate n (zs.map AV.v)).flatten).length = n * e := by
  rw [List.length_flatten]; simp [hze]
 obtain ⟨w',q1,q2,q3⟩ := BM (P := P) gh hH p1 (off := off) (new := (List.replicate n (zs.map AV.v)).flatten) (by rw [hlen]; exact hl) (CZ h4 n)
 have hr : (Builtin.clear_ #[t] o.type #[a.eval x]).run P w = .ok (.tuple #[]) w' := by
  rw [p2]
  cases n with
  | zero => omega
  | succ n =>
   have hzc : (Builtin.zeroCells z.cells (n + 1)).toList = (List.replicate (n + 1) zs).flatten := by rw [nA,h3]
   simp [Builtin.clear_,bW hu,zeroValue,typeInfo,h1,h2,hzc,q1]
 refine ⟨.value (.tuple #[]),.tuple #[],ι,w',?_,.inl ⟨rfl,?_⟩,q2,q3⟩
 ·simp [execOp,ho,resolve,invoke,builtin,hr]
 ·simp only [Rd]; exact ⟨[],rfl,by simp [RdV]⟩
end
section
variable {P : Program} {N : Nat} {Q : Exit → AS → Prop} {all : Array Oper} {rest : List Oper} {ts : List (Nat × AV)} {hs : List (Nat × Option (List AV))} {n : Nat} {z0 : Lo} {md : Md}
variable {d : Nat} {ty : TypeId} {pos : String} {af : Array Edge}
theorem La {t el id off m e:Nat}{x:Operand}{cs cs':List AV}{zs:List Value}[ht:SlT P t el] [he:SzT P el e] [hz:ZrT P el zs]
  (hx : ev (lk ts) x = some (.own id off m e)) (hze : zs.length = e) (h0 : 0 < m) (hH : aV hs id = some cs) (hl : off + m * e ≤ cs.length)
  (hcs : g6 cs off (List.replicate m (zs.map AV.v)).flatten = cs') {md' : Md} [hmd : MdA md (rO x ++ [.inr id]) [.inr id] md'] (kk : RW P N all Q md' rest ⟨ts,(id,some cs') :: hs,n,z0⟩) :
  RW P N all Q md (⟨none,.call ⟨.builtin .clear,#[x],#[t]⟩,ty,pos,af,none⟩ :: rest) ⟨ts,hs,n,z0⟩ := by
 subst hcs
 exact BH (rs := rO x ++ [.inr id]) (ws := [(id, some (g6 cs off (List.replicate m (zs.map AV.v)).flatten))]) (n' := n) (out := .tup []) rfl (fun _ h => by cases h) (Nat.le_refl n) (.inl rfl)
  (fun C ι F T H a w ag hF g gh => FG (Jj gh rfl (bV g (ag.l.ev.trans hx)) rfl ht.pf he.pf hz.pf hze ((ag.r.h id (by simp)).trans hH) h0 hl)) (by
   show RW P N all Q (md.add (rO x ++ [.inr id]) [.inr id]) rest ⟨ts,(id,some (g6 cs off (List.replicate m (zs.map AV.v)).flatten)) :: hs,n,z0⟩
   rw [hmd.pf]; exact kk)
end
end Go.AL
namespace Go.AL
section
variable {P : Program} {N : Nat} {Q : Exit → AS → Prop} {all : Array Oper} {rest : List Oper} {ts : List (Nat × AV)} {hs : List (Nat × Option (List AV))} {n : Nat} {z0 : Lo} {md : Md}
variable {d : Nat} {ty : TypeId} {pos : String} {af : Array Edge}
theorem yX (w:World) (t el:TypeId) (hu:P.underlying t = some (.slice el)) (a:Option Addr) (m c:Nat):(binOp .eql t (.slice a m c) (.slice none 0 0)).run P w = .ok (.bool a.isNone) w:=by
 have h0 : ∀ d : Nat, (Op.equalIn (d + 1) t (.slice a m c) (.slice none 0 0)).run P w = .ok a.isNone w := fun d => by
  cases a <;> simp [Op.equalIn,bW hu]
 have h := h0 9999
 simp only [binOp]
 simp [Op.equal,Op.maxDepth,h]
theorem CY {t t' el:TypeId}{x:Operand}{m:Nat}{cs:List AV}[ht:SlT P t el] (hx:ev (lk ts) x = some (.imm m cs)) (hN:Nat.blt d N = true)
  (kk : ∀ b : Bool,(b = true → m = 0) → RW P N all Q .txt rest ⟨(d,.v (.bool b)) :: ts,hs,n,z0⟩) : RW P N all Q .txt (⟨some d,.binOp .eql t x (.const (.slice none 0 0)) t',ty,pos,af,none⟩ :: rest) ⟨ts,hs,n,z0⟩ := by
 rintro C a w hCN ⟨h0,ι,g,gh⟩
 refine wpList_plain rfl (fun K hK => ?_)
 have h1 := bV g hx
 simp only [Rd] at h1
 obtain ⟨a',c,h2,h3⟩ := h1
 have hu := iB ht.pf
 have hb : a'.isNone = true → m = 0 := fun hn => by
  rcases h3 with h3 | ⟨b,o,_,rfl,_⟩
  ·exact h3
  ·cases hn
 have hg : (eqGuard .eql t x (.const (.slice none 0 0)) (.slice a' m c) (.slice none 0 0)).run P w = .ok () w := by simp [eqGuard]
 have hr : (execOp a.eval ⟨some d, .binOp .eql t x (.const (.slice none 0 0)) t', ty, pos, af, none⟩).run P w = .ok (.value (.bool a'.isNone)) w := by
  have e2 : a.eval (.const (.slice none 0 0)) = .slice none 0 0 := rfl
  simp only [execOp,h2,e2,Sem.run_bind,hg,Result.andThen_ok,yX w t el hu,Sem.run_pure]
 simp only [Oper.wp,hr,Oper.upon]
 refine hK _ _ (kk a'.isNone hb C _ _ hCN ⟨h0,ι,?_,gh⟩)
 show TG C ι (lk ((d,AV.v (.bool a'.isNone)) :: ts)) _ _ _
 rw [iJ]
 exact g.put (by have := cS hN;omega) (by simp [Rd])
end
theorem FZ {α:Type}{f:α → List AV}{e:Nat}[h:FlT f e] {hs:List (Nat × Option (List AV))}{xs:List α}{i k n:Nat}(hH:aV hs i = some (flat f xs)) (hn:n = xs.length - k):sCells (aV hs) e (rD (.own i (0 + k * e) n e)) = some (n,flat f (xs.drop k)):=by
 show ((aV hs i).bind fun cs => if n * e ≤ (cs.drop (0 + k * e)).length then some (n,(cs.drop (0 + k * e)).take (n * e)) else none) = _
 rw [hH,Option.bind_some,Nat.zero_add]
 have h1 : (flat f xs).length = xs.length * e := aI f xs
 have h3 : (flat f xs).drop (k * e) = flat f (xs.drop k) := by
  have h4 : flat f xs = flat f (xs.take k) ++ flat f (xs.drop k) := by rw [cH,List.take_append_drop]
  have h5 : (flat f (xs.take k)).length = (xs.take k).length * e := aI f _
  by_cases hk : k ≤ xs.length
  ·rw [h4,← show (flat f (xs.take k)).length = k * e from by rw [h5,List.length_take]; congr 1;omega,List.drop_left]
  ·rw [List.drop_of_length_le (by rw [h1]; exact Nat.mul_le_mul_right _ (by omega)),List.drop_of_length_le (by omega)]; rfl
 rw [h3]
 have h2 : (flat f (xs.drop k)).length = (xs.length - k) * e := by rw [aI f (e := e),List.length_drop]
 rw [h2,hn,if_pos (Nat.le_refl _),List.take_of_length_le (by rw [h2]; exact Nat.le_refl _)]
theorem rU {T:Nat → Option AV}{x:Operand}{dd:Nat}{k:IntKind}{m:Int}{h:Nat}(hx:ev T x = some (.v (.int k m))) (e:m = (h:Int)):gC T (some x) dd = some h:=by
 simp only [gC,hx]; rw [if_pos (by omega)]; congr 1;omega
structure Tg where
 id : Int
 uq : Bool
 deriving Inhabited,DecidableEq
structure Cl where
 val : Int
 alive : Bool
 next : Int
 stk : List Tg
 deriving Inhabited,DecidableEq
structure Pt where
 cell : Int
 tag : Int
 deriving Inhabited,DecidableEq
structure Sl where
 set : Bool
 num : Int
 ptr : Pt
 deriving Inhabited,DecidableEq
def cG (t : Tg) : List AV := [iv t.id,bv t.uq]
def bJ (c : Cl) : List AV := [iv c.val,bv c.alive,iv c.next,sl cG c.stk]
def dC (s : Sl) : List AV := [bv s.set,iv s.num,iv s.ptr.cell,iv s.ptr.tag]
instance : FlT cG 2:=⟨fun _ => rfl⟩
instance : FlT bJ 4:=⟨fun _ => rfl⟩
instance : FlT dC 4:=⟨fun _ => rfl⟩
instance : FE cG (fun t => [iv t.id,bv t.uq]):=⟨fun _ => rfl⟩
instance : FE bJ (fun c => [iv c.val,bv c.alive,iv c.next,sl cG c.stk]):=⟨fun _ => rfl⟩
instance : FE dC (fun s => [bv s.set,iv s.num,iv s.ptr.cell,iv s.ptr.tag]):=⟨fun _ => rfl⟩
instance (t : Tg) : Pur (cG t):=⟨rfl⟩
instance (c : Cl) : Pur (bJ c):=⟨by show (true && (true && (true && ((sl cG c.stk).pur && true)))) = true;rw [bF]; rfl⟩
instance (s : Sl) : Pur (dC s):=⟨rfl⟩
abbrev SM (t : Tg) : AV := .agg [iv t.id,bv t.uq]
abbrev SO (c : Cl) : AV := .agg [iv c.val,bv c.alive,iv c.next,sl cG c.stk]
abbrev n6 (p : Pt) : AV := .agg [iv p.cell,iv p.tag]
abbrev Ih (s : Sl) : AV := .agg [bv s.set,iv s.num,iv s.ptr.cell,iv s.ptr.tag]
structure OkC (c : Cl) : Prop where
 v : 0 ≤ c.val ∧ c.val ≤ 9
 n : 1 ≤ c.next ∧ c.next ≤ 1000
 l : 1 ≤ c.stk.length ∧ c.stk.length ≤ 200
 u : c.stk[0]!.uq = true
 i : ∀ t ∈ c.stk,0 ≤ t.id ∧ t.id < c.next
 d : (c.stk.map (·.id)).Nodup
structure OkM (m : List Cl) : Prop where
 l : m.length ≤ 200
 c : ∀ c ∈ m,OkC c
def b8 (stk : List Tg) (id : Int) : Int := match stk.findIdx? (fun t => decide (t.id = id)) with | some k => k | none => -1
theorem dY (stk:List Tg) (id:Int):-1 ≤ b8 stk id ∧ b8 stk id < stk.length:=by
 unfold b8
 split
 ·rename_i k h
  obtain ⟨h1,_⟩ := List.findIdx?_eq_some_iff_getElem.1 h
  omega
 ·omega
theorem EP {stk:List Tg}{id:Int}(h:0 ≤ b8 stk id):stk[(b8 stk id).toNat]!.id = id:=by
 unfold b8 at h ⊢
 split
 ·rename_i k hk
  obtain ⟨h1,h2,_⟩ := List.findIdx?_eq_some_iff_getElem.1 hk
  rw [Int.toNat_natCast,aZ _ _ h1]
  simpa using h2
 ·rename_i hk;rw [hk] at h;dsimp only at h;omega
theorem nU {stk:List Tg}{id:Int}:b8 stk id < 0 ↔ ∀ t ∈ stk,t.id ≠ id:=by
 unfold b8
 split
 ·rename_i k hk
  obtain ⟨h1,h2,_⟩ := List.findIdx?_eq_some_iff_getElem.1 hk
  refine ⟨fun h => by omega,fun h => ?_⟩
  exact absurd (by simpa using h2) (h _ (List.getElem_mem h1))
 ·rename_i hk
  rw [List.findIdx?_eq_none_iff] at hk
  exact ⟨fun _ t ht => by simpa using hk t ht,fun _ => by omega⟩
def eZ (stk : List Tg) (k : Nat) (wr : Bool) : List Tg := if wr = true then stk.take (k + 1) else stk.take (k + 1) ++ (stk.drop (k + 1)).filter (fun t => !t.uq)
def a7 (m : List Cl) (x : Pt) (wr : Bool) : Int :=
 if ¬ (0 ≤ x.cell ∧ x.cell < m.length) then 4
 else if m[x.cell.toNat]!.alive = false then 1
 else if b8 m[x.cell.toNat]!.stk x.tag < 0 then 2
 else if wr = true ∧ m[x.cell.toNat]!.stk[(b8 m[x.cell.toNat]!.stk x.tag).toNat]!.uq = false then 3
 else 0
def iS (c : Cl) (x : Pt) (wr : Bool) : Cl := { c with stk := eZ c.stk (b8 c.stk x.tag).toNat wr }
def cO (m : List Cl) (x : Pt) (wr : Bool) : List Cl := if a7 m x wr = 0 then m.set x.cell.toNat (iS m[x.cell.toNat]! x wr) else m
def oQ (m : List Cl) (x : Pt) : Int := if a7 m x false = 0 then m[x.cell.toNat]!.val else 0
def qC (m : List Cl) (x : Pt) (v : Int) : Int := if 0 ≤ v ∧ v ≤ 9 then a7 m x true else 4
def pI (m : List Cl) (x : Pt) (v : Int) : List Cl := if qC m x v = 0 then m.set x.cell.toNat { iS m[x.cell.toNat]! x true with val := v } else m
def gY (m : List Cl) (x : Pt) : List Cl := if a7 m x true = 0 then m.set x.cell.toNat { iS m[x.cell.toNat]! x true with alive := false } else m
def D3 (c : Cl) : Prop := c.stk.length = 200 ∨ c.next = 1000
instance (c : Cl) : Decidable (D3 c) := by unfold D3;infer_instance
def kZ (m : List Cl) (x : Pt) (u : Bool) : Int := if a7 m x u = 0 then (if D3 (iS m[x.cell.toNat]! x u) then 4 else 0) else a7 m x u
def psh (c : Cl) (u : Bool) : Cl := { c with stk := c.stk ++ [⟨c.next,u⟩],next := c.next + 1 }
def j9 (m : List Cl) (x : Pt) (u : Bool) : List Cl := if kZ m x u = 0 then m.set x.cell.toNat (psh (iS m[x.cell.toNat]! x u) u) else m
def qM (m : List Cl) (x : Pt) (u : Bool) : Pt := if kZ m x u = 0 then ⟨x.cell,m[x.cell.toNat]!.next⟩ else ⟨0,0⟩
def o9 (v : Int) : Cl := ⟨v,true,1,[⟨0,true⟩]⟩
theorem tchS_sub {stk:List Tg}{k:Nat}{wr:Bool}:(eZ stk k wr).Sublist stk:=by
 unfold eZ
 split
 ·exact List.take_sublist _ _
 ·have h := List.Sublist.append (List.Sublist.refl (stk.take (k + 1))) (List.filter_sublist (l := stk.drop (k + 1)) (p := fun t => !t.uq))
  rwa [List.take_append_drop] at h
theorem y1 {stk:List Tg}{k:Nat}{wr:Bool}(h:0 < stk.length):(eZ stk k wr)[0]! = stk[0]! ∧ 0 < (eZ stk k wr).length:=by
 cases stk with
 | nil => simp at h
 | cons a l =>
  unfold eZ
  split <;> simp
theorem OkC.tch {c:Cl}(h:OkC c) (x:Pt) (wr:Bool):OkC (iS c x wr):=by
 have hs := tchS_sub (stk := c.stk) (k := (b8 c.stk x.tag).toNat) (wr := wr)
 have hh := y1 (k := (b8 c.stk x.tag).toNat) (wr := wr) (stk := c.stk) (by have := h.l;omega)
 refine ⟨h.v,h.n,⟨hh.2,Nat.le_trans hs.length_le h.l.2⟩,?_,fun t ht => h.i t (hs.subset ht),(hs.map _).nodup h.d⟩
 show (eZ c.stk (b8 c.stk x.tag).toNat wr)[0]!.uq = true
 rw [hh.1]; exact h.u
theorem OkC.psh {c:Cl}(h:OkC c) (u:Bool) (hf:¬ D3 c):OkC (psh c u):=by
 have hl := h.l
 have hn := h.n
 unfold D3 at hf
 refine ⟨h.v,by show 1 ≤ c.next + 1 ∧ c.next + 1 ≤ 1000;omega,by show 1 ≤ (c.stk ++ [_]).length ∧ (c.stk ++ [_]).length ≤ 200;rw [List.length_append,List.length_singleton]; omega,?_,fun t ht => ?_,?_⟩
 ·show (c.stk ++ [_])[0]!.uq = true
  have h1 := h.u
  rw [aZ _ _ (by omega)] at h1
  rw [aZ _ _ (by rw [List.length_append]; omega),List.getElem_append_left (by omega)]; exact h1
 ·rcases List.mem_append.1 ht with ht | ht
  ·have := h.i t ht;show 0 ≤ t.id ∧ t.id < c.next + 1;omega
  ·rw [List.mem_singleton] at ht;subst ht;show 0 ≤ c.next ∧ c.next < c.next + 1;omega
 ·show ((c.stk ++ [_]).map _).Nodup
  rw [List.map_append,List.nodup_append]
  refine ⟨h.d,by simp,fun a ha b hb => ?_⟩
  simp only [List.map_cons,List.map_nil,List.mem_singleton] at hb
  obtain ⟨t,ht,rfl⟩ := List.mem_map.1 ha
  have := h.i t ht
  omega
theorem OkC.nw {v:Int}(h:0 ≤ v ∧ v ≤ 9):OkC (o9 v) := ⟨h,⟨by show (1:Int) ≤ 1;decide,by show (1:Int) ≤ 1000;decide⟩,⟨by show 1 ≤ 1;decide,by show 1 ≤ 200;decide⟩,rfl,by simp [o9],by simp [o9]⟩
theorem OkM.set {m:List Cl}(h:OkM m){k:Nat}{c:Cl}(hc:OkC c):OkM (m.set k c) :=
 ⟨by rw [List.length_set]; exact h.l,fun x hx => (List.mem_or_eq_of_mem_set hx).elim (h.c x) (fun e => e ▸ hc)⟩
theorem OkM.at {m:List Cl}(h:OkM m){k:Nat}(hk:k < m.length):OkC m[k]! := h.c _ (aU _ _ hk)
theorem dQ {m:List Cl}{x:Pt}{wr:Bool}(h:a7 m x wr ≠ 4):0 ≤ x.cell ∧ x.cell < m.length ∧ x.cell.toNat < m.length:=by
 unfold a7 at h
 split at h
 ·exact absurd rfl h
 ·omega
theorem dK {m:List Cl}{x:Pt}{wr:Bool}(h:a7 m x wr = 0):0 ≤ x.cell ∧ x.cell < m.length ∧ x.cell.toNat < m.length := dQ (by rw [h]; decide)
theorem OkM.tch {m:List Cl}(h:OkM m) (x:Pt) (wr:Bool):OkM (cO m x wr):=by
 unfold cO;split
 ·rename_i hk;exact h.set ((h.at (dK hk).2.2).tch x wr)
 ·exact h
theorem OkM.wr {m:List Cl}(h:OkM m) (x:Pt) (v:Int):OkM (pI m x v):=by
 unfold pI
 by_cases hk : qC m x v = 0
 ·rw [if_pos hk]
  unfold qC at hk
  by_cases hv : 0 ≤ v ∧ v ≤ 9
  ·rw [if_pos hv] at hk
   have h1 := (h.at (dK hk).2.2).tch x true
   exact h.set ⟨hv,h1.n,h1.l,h1.u,h1.i,h1.d⟩
  ·rw [if_neg hv] at hk;cases hk
 ·rw [if_neg hk]; exact h
theorem OkM.fr {m:List Cl}(h:OkM m) (x:Pt):OkM (gY m x):=by
 unfold gY;split
 ·rename_i hk
  have h1 := (h.at (dK hk).2.2).tch x true
  exact h.set ⟨h1.v,h1.n,h1.l,h1.u,h1.i,h1.d⟩
 ·exact h
theorem OkM.ln {m:List Cl}(h:OkM m) (x:Pt) (u:Bool):OkM (j9 m x u):=by
 unfold j9
 by_cases hk : kZ m x u = 0
 ·rw [if_pos hk]
  unfold kZ at hk
  by_cases h0 : a7 m x u = 0
  ·rw [if_pos h0] at hk
   by_cases hf : D3 (iS m[x.cell.toNat]! x u)
   ·rw [if_pos hf] at hk;cases hk
   ·exact h.set (((h.at (dK h0).2.2).tch x u).psh u hf)
  ·rw [if_neg h0] at hk;exact absurd hk h0
 ·rw [if_neg hk]; exact h
theorem OkM.nw {m:List Cl}(h:OkM m){v:Int}(hv:0 ≤ v ∧ v ≤ 9) (hl:m.length < 200):OkM (m ++ [o9 v]) :=
 ⟨by rw [List.length_append,List.length_singleton]; omega,fun c hc => (List.mem_append.1 hc).elim (h.c c) (fun h => by rw [List.mem_singleton.1 h]; exact OkC.nw hv)⟩
def g0 (pts : List Pnt) (a : Nat) (cs : List Int) : Nat × List Int :=
 if pts[a]!.next.length = 2 then
  match cs with
  | [] => ((pts[a]!.next[1]!).toNat,[])
  | c :: cs => ((pts[a]!.next[(c % 2).toNat]!).toNat,cs)
 else ((pts[a]!.next[0]!).toNat,cs)
def dH (pts : List Pnt) : Nat → Nat → List Int → List Nat × Bool
 | 0,a,_ => if pts[a]!.op = 11 then ([a],true) else ([],false)
 | n + 1,a,cs => if pts[a]!.op = 11 then ([a],true) else (a :: (dH pts n (g0 pts a cs).1 (g0 pts a cs).2).1,(dH pts n (g0 pts a cs).1 (g0 pts a cs).2).2)
structure Mc where
 slots : List Sl
 cells : List Cl
 read : List Int
 deriving Inhabited
def gD : Sl := ⟨false,0,⟨0,0⟩⟩
def eG (k : Int) : Int := if k = 1 then 3 else 4
def kP (k : Int) : Int := if k = 0 then -1 else eG k
def bI (ts : List Int) (s : Mc) (v : Nat) (x : Sl) : Mc × Int :=
 if ts[v]! = 2 ∧ s.slots[v]!.set = true then (⟨s.slots.set v x,gY s.cells s.slots[v]!.ptr,s.read⟩,kP (a7 s.cells s.slots[v]!.ptr true))
 else (⟨s.slots.set v x,s.cells,s.read⟩,-1)
def cA (ts : List Int) (s : Mc) (x : Pnt) : Bool := (List.range ts.length).any fun v => decide (aQ ts x v ≠ 0) && !s.slots[v]!.set
def cL (ts : List Int) : Nat → Nat → Mc → Mc × Int
 | 0,_,s => (s,0)
 | n + 1, v, s => if ts[v]! = 2 ∧ s.slots[v]!.set = true then
   (if a7 s.cells s.slots[v]!.ptr true = 0 then cL ts n (v + 1) ⟨s.slots.set v gD,gY s.cells s.slots[v]!.ptr,s.read⟩ else (⟨s.slots,gY s.cells s.slots[v]!.ptr,s.read⟩,eG (a7 s.cells s.slots[v]!.ptr true)))
  else cL ts n (v + 1) s
def bT (ts : List Int) (s : Mc) (x : Pnt) : Mc × Int :=
 if x.op = 1 then bI ts s x.x.toNat ⟨true,x.n,⟨0,0⟩⟩
 else if x.op = 2 then (if s.cells.length = 200 then (s,1) else bI ts ⟨s.slots,s.cells ++ [o9 x.n],s.read⟩ x.x.toNat ⟨true,0,⟨s.cells.length,0⟩⟩)
 else if x.op = 3 then bI ts (if w9 ts[x.y.toNat]! = true then ⟨s.slots.set x.y.toNat gD,s.cells,s.read⟩ else s) x.x.toNat s.slots[x.y.toNat]!
 else if x.op = 4 ∨ x.op = 5 then
  (if kZ s.cells s.slots[x.y.toNat]!.ptr (decide (x.op = 5)) = 0 then bI ts ⟨s.slots, j9 s.cells s.slots[x.y.toNat]!.ptr (decide (x.op = 5)), s.read⟩ x.x.toNat ⟨true, 0, qM s.cells s.slots[x.y.toNat]!.ptr (decide (x.op = 5))⟩
   else (s,eG (kZ s.cells s.slots[x.y.toNat]!.ptr (decide (x.op = 5)))))
 else if x.op = 6 then
  (if a7 s.cells s.slots[x.y.toNat]!.ptr false = 0 then bI ts ⟨s.slots, cO s.cells s.slots[x.y.toNat]!.ptr false, s.read ++ [oQ s.cells s.slots[x.y.toNat]!.ptr]⟩ x.x.toNat ⟨true, oQ s.cells s.slots[x.y.toNat]!.ptr, ⟨0, 0⟩⟩
   else (s,eG (a7 s.cells s.slots[x.y.toNat]!.ptr false)))
 else if x.op = 7 then (⟨s.slots,pI s.cells s.slots[x.x.toNat]!.ptr s.slots[x.y.toNat]!.num,s.read⟩,kP (qC s.cells s.slots[x.x.toNat]!.ptr s.slots[x.y.toNat]!.num))
 else if x.op = 8 then (⟨s.slots.set x.x.toNat gD,gY s.cells s.slots[x.x.toNat]!.ptr,s.read⟩,kP (a7 s.cells s.slots[x.x.toNat]!.ptr true))
 else if x.op = 11 then cL ts ts.length 0 s
 else (s,-1)
def gX (ts : List Int) (pts : List Pnt) : List Nat → Mc → Nat → Mc × Int × Nat
 | [],s,last => (s,1,last)
 | a :: l, s, _ => if cA ts s pts[a]! = true then (s, 2, a)
  else if (bT ts s pts[a]!).2 = -1 then gX ts pts l (bT ts s pts[a]!).1 a
  else ((bT ts s pts[a]!).1,(bT ts s pts[a]!).2,a)
def mc0 (nt : Nat) : Mc := ⟨List.replicate nt gD,[],[]⟩
def dI (ts : List Int) (pts : List Pnt) (cs : List Int) (most : Nat) : Mc × Int × Nat := gX ts pts (dH pts most 0 cs).1 (mc0 ts.length) 0
structure OkS (nt : Nat) (s : Mc) : Prop where
 m : OkM s.cells
 l : s.slots.length = nt
theorem OkS.put {ts:List Int}{nt:Nat}{s:Mc}(h:OkS nt s) (v:Nat) (x:Sl):OkS nt (bI ts s v x).1:=by
 unfold bI;split
 ·exact ⟨h.m.fr _,by show (s.slots.set v x).length = nt;rw [List.length_set]; exact h.l⟩
 ·exact ⟨h.m,by show (s.slots.set v x).length = nt;rw [List.length_set]; exact h.l⟩
theorem OkS.fin {ts:List Int}{nt:Nat}:∀ n v (s:Mc),OkS nt s → OkS nt (cL ts n v s).1
 | 0,_,_,h => h
 | n + 1, v, s, h => by
  unfold cL;split
  ·split
   ·exact OkS.fin n _ _ ⟨h.m.fr _,by show (s.slots.set v gD).length = nt;rw [List.length_set]; exact h.l⟩
   ·exact ⟨h.m.fr _,h.l⟩
  ·exact OkS.fin n _ _ h
structure PtN (x : Pnt) : Prop where
 n : x.op = 2 → 0 ≤ x.n ∧ x.n ≤ 9
theorem OkS.do {ts:List Int}{nt:Nat}{s:Mc}(h:OkS nt s){x:Pnt}(hx:PtN x):OkS nt (bT ts s x).1:=by
 have hl : ∀ (v : Nat) (y : Sl),(s.slots.set v y).length = nt := fun v y => by rw [List.length_set]; exact h.l
 unfold bT
 split
 ·exact h.put _ _
 split
 ·rename_i h2
  split
  ·exact h
  ·rename_i h3
   refine OkS.put ?_ _ _
   exact ⟨h.m.nw (hx.n h2) (by have := h.m.l;omega),h.l⟩
 split
 ·split
  ·refine OkS.put ?_ _ _
   exact ⟨h.m,hl _ _⟩
  ·exact h.put _ _
 split
 ·split
  ·refine OkS.put ?_ _ _
   exact ⟨h.m.ln _ _,h.l⟩
  ·exact h
 split
 ·split
  ·refine OkS.put ?_ _ _
   exact ⟨h.m.tch _ _,h.l⟩
  ·exact h
 split
 ·exact ⟨h.m.wr _ _,h.l⟩
 split
 ·exact ⟨h.m.fr _,hl _ _⟩
 split
 ·exact OkS.fin _ _ _ h
 ·exact h
theorem OkS.mc0 (nt:Nat):OkS nt (mc0 nt) := ⟨⟨by simp [Go.AL.mc0],by simp [Go.AL.mc0]⟩,by simp [Go.AL.mc0]⟩
theorem OkS.run {ts:List Int}{pts:List Pnt}{nt:Nat}(hp:∀ a:Nat,PtN pts[a]!):∀ (l:List Nat) (s:Mc) (last:Nat),OkS nt s → OkS nt (gX ts pts l s last).1
 | [],_,_,h => h
 | a :: l, s, _, h => by
  unfold gX;split
  ·exact h
  ·split
   ·exact OkS.run hp l _ _ (h.do (hp a))
   ·exact h.do (hp a)
theorem Ka (k:Int):kP k = -1 ∨ kP k = 3 ∨ kP k = 4 := by unfold kP eG;split;exact .inl rfl;split;exact .inr (.inl rfl);exact .inr (.inr rfl)
theorem p9 (k:Int):eG k = 3 ∨ eG k = 4 := by unfold eG;split;exact .inl rfl;exact .inr rfl
theorem ML (ts:List Int) (s:Mc) (v:Nat) (x:Sl):(bI ts s v x).2 = -1 ∨ (bI ts s v x).2 = 3 ∨ (bI ts s v x).2 = 4:=by
 unfold bI;split
 ·exact Ka _
 ·exact .inl rfl
theorem Jw {ts:List Int}{s:Mc}{x:Pnt}(h:x.op ≠ 11):(bT ts s x).2 = -1 ∨ (bT ts s x).2 = 1 ∨ (bT ts s x).2 = 3 ∨ (bT ts s x).2 = 4:=by
 have p := fun s v y => ML ts s v y
 have p' : ∀ s v y, (bI ts s v y).2 = -1 ∨ (bI ts s v y).2 = 1 ∨ (bI ts s v y).2 = 3 ∨ (bI ts s v y).2 = 4 := fun s v y => by
  rcases p s v y with h|h|h
  ·exact .inl h
  ·exact .inr (.inr (.inl h))
  ·exact .inr (.inr (.inr h))
 have g : ∀ k, kP k = -1 ∨ kP k = 1 ∨ kP k = 3 ∨ kP k = 4 := fun k => by
  rcases Ka k with h|h|h
  ·exact .inl h
  ·exact .inr (.inr (.inl h))
  ·exact .inr (.inr (.inr h))
 have e : ∀ k,eG k = -1 ∨ eG k = 1 ∨ eG k = 3 ∨ eG k = 4 := fun k => .inr (.inr (p9 k))
 unfold bT
 rw [if_neg h]
 split
 ·exact p' _ _ _
 split
 ·split
  ·exact .inr (.inl rfl)
  ·exact p' _ _ _
 split
 ·exact p' _ _ _
 split
 ·split
  ·exact p' _ _ _
  ·exact e _
 split
 ·split
  ·exact p' _ _ _
  ·exact e _
 split
 ·exact g _
 split
 ·exact g _
 exact .inl rfl
theorem nW (ts:List Int):∀ n v (s:Mc),(cL ts n v s).2 = 0 ∨ (cL ts n v s).2 = 3 ∨ (cL ts n v s).2 = 4
 | 0,_,_ => .inl rfl
 | n + 1, v, s => by
  unfold cL;split
  ·split
   ·exact nW ts n _ _
   ·exact .inr (p9 _)
  ·exact nW ts n _ _
theorem uV {ts:List Int}{s:Mc}{x:Pnt}(h:x.op = 11):bT ts s x = cL ts ts.length 0 s:=by
 unfold bT;simp [h]
theorem ND (m:List Cl) (x:Pt):(gY m x).length = m.length := by unfold gY;split <;> simp
theorem mU (m:List Cl) (x:Pt) (b:Bool):(cO m x b).length = m.length := by unfold cO;split <;> simp
theorem FM (m:List Cl) (x:Pt) (b:Bool):(j9 m x b).length = m.length := by unfold j9;split <;> simp
theorem M5 (m:List Cl) (x:Pt) (v:Int):(pI m x v).length = m.length := by unfold pI;split <;> simp
structure PtA (ts : List Int) (x : Pnt) : Prop where
 n : x.op = 1 ∨ x.op = 2 → 0 ≤ x.n ∧ x.n ≤ 9
 t1 : x.op = 1 → ts[x.x.toNat]! = 1
 t2 : x.op = 2 ∨ x.op = 8 → ts[x.x.toNat]! = 2
 t3 : x.op = 3 → ts[x.x.toNat]! = ts[x.y.toNat]! ∧ x.x ≠ x.y
 t4 : x.op = 4 → ts[x.x.toNat]! = 3 ∧ x.x ≠ x.y ∧ 2 ≤ ts[x.y.toNat]!
 t5 : x.op = 5 → ts[x.x.toNat]! = 4 ∧ x.x ≠ x.y ∧ (ts[x.y.toNat]! = 2 ∨ ts[x.y.toNat]! = 4)
 t6 : x.op = 6 → ts[x.x.toNat]! = 1 ∧ 2 ≤ ts[x.y.toNat]!
 t7 : x.op = 7 → (ts[x.x.toNat]! = 2 ∨ ts[x.x.toNat]! = 4) ∧ ts[x.y.toNat]! = 1
theorem PtA.no {ts:List Int}{x:Pnt}(h:9 ≤ x.op):PtA ts x := ⟨fun e => by omega,fun e => by omega,fun e => by omega,fun e => by omega,fun e => by omega,fun e => by omega,fun e => by omega,fun e => by omega⟩
theorem DZ {ts:List Int}{s:Stmt}(h:dO ts s = true):s.op ≤ 8:=by
 unfold dO at h
 dsimp only at h
 apply Classical.byContradiction
 intro e
 rw [if_neg (by omega),if_neg (by omega)] at h
 split at h
 ·cases h
 ·rw [if_neg (by omega),if_neg (by omega),if_neg (by omega),if_neg (by omega),if_neg (by omega),if_neg (by omega)] at h;cases h
theorem Il {ts:List Int}(s:Stmt) (h:dO ts s = true):PtA ts ⟨s.op,s.x,s.y,s.n,[]⟩:=by
 have g : ∀ v,0 < fK ts v → fK ts v = ts[v.toNat]! := fun v => Dh
 have gx := g s.x
 have gy := g s.y
 unfold dO at h
 dsimp only at h
 constructor <;> dsimp only <;> intro e
 case n => rcases e with e|e <;> simp [e] at h <;> omega
 case t1 => simp [e] at h;rw [← gx (by omega)]; omega
 case t2 => rcases e with e|e <;> simp [e] at h <;> (rw [← gx (by omega)]; omega)
 case t3 => simp [e] at h;rw [← gx (by omega),← gy (by omega)]; exact ⟨h.2.1,h.2.2.2⟩
 case t4 => simp [e] at h;rw [← gx (by omega),← gy (by omega)]; exact ⟨h.2.1,h.2.2.2,h.2.2.1⟩
 case t5 => simp [e] at h;rw [← gx (by omega),← gy (by omega)]; exact ⟨h.2.1,h.2.2.2,h.2.2.1⟩
 case t6 => simp [e] at h;rw [← gx (by omega),← gy (by omega)]; exact ⟨h.2.1,h.2.2⟩
 case t7 => simp [e] at h;rw [← gx (by omega),← gy (by omega)]; exact ⟨h.2.1,h.2.2⟩
mutual
theorem RY {ts:List Int}:∀ (s:Stmt) (d b:Nat),wI ts d s = true → ∀ x ∈ Bj b s,PtA ts x ∧ x.op ≠ 11 ∧ 0 < x.next.length
 | .mk op x y n th el, d, b, h => by
  simp only [wI] at h
  split at h
  ·rename_i hop
   simp only [Bool.and_eq_true] at h
   have hs := Il _ h.2
   have ho := DZ h.2
   simp only [Stmt.op,Stmt.x,Stmt.y,Stmt.n] at hs ho
   simp only [Bj,hop.1,hop.2,if_false,List.mem_singleton]
   rintro z rfl
   exact ⟨⟨hs.n,hs.t1,hs.t2,hs.t3,hs.t4,hs.t5,hs.t6,hs.t7⟩,by dsimp only;omega,by simp⟩
  ·rename_i hop
   cases d with
   | zero => cases h
   | succ d =>
    simp only [Bool.and_eq_true,decide_eq_true_eq] at h
    obtain ⟨⟨⟨_,_⟩,h1⟩,h2⟩ := h
    by_cases h9 : op = 9
    ·subst h9
     simp only [Bj,if_true,List.mem_append,List.mem_singleton]
     rintro z (((rfl|hz)|rfl)|hz)
     ·exact ⟨PtA.no (by simp),by simp,by simp⟩
     ·exact uI th d (b + 1) h1 z hz
     ·exact ⟨PtA.no (by simp),by simp,by simp⟩
     ·exact uI el d (b + 2 + c9 th) h2 z hz
    ·have h10 : op = 10 := by omega
     subst h10
     simp only [Bj,if_true,show ((10 : Int) = 9) = False by simp,if_false,List.mem_append,List.mem_singleton]
     rintro z ((rfl|hz)|rfl)
     ·exact ⟨PtA.no (by simp),by simp,by simp⟩
     ·exact uI th d (b + 1) h1 z hz
     ·exact ⟨PtA.no (by simp),by simp,by simp⟩
theorem uI {ts:List Int}:∀ (l:List Stmt) (d b:Nat),okL ts d l = true → ∀ x ∈ gQ b l,PtA ts x ∧ x.op ≠ 11 ∧ 0 < x.next.length
 | [],d,b,h => by simp [gQ]
 | s :: l, d, b, h => by
  simp only [okL,Bool.and_eq_true] at h
  simp only [gQ,List.mem_append]
  rintro x (hx|hx)
  ·exact RY s d b h.1 x hx
  ·exact uI l d (b + qP s) h.2 x hx
end
structure WA (ts : List Int) (pts : List Pnt) : Prop where
 a : ∀ i,i < pts.length → PtA ts pts[i]!
 e : ∀ i,i < pts.length → (pts[i]!.op = 11 ↔ i + 1 = pts.length)
 n : ∀ i,i < pts.length → pts[i]!.op ≠ 11 → 0 < pts[i]!.next.length
theorem WA.of_valid {p:Prg}(h:bB p = true):WA p.types (aD p):=by
 unfold bB at h
 simp only [Bool.and_eq_true,decide_eq_true_eq] at h
 obtain ⟨⟨_,hl⟩,_⟩ := h
 have hlen := m5 p
 have hpl := bX p.body 0
 have lo : ∀ i, i + 1 < (aD p).length → (aD p)[i]! ∈ gQ 0 p.body := fun i hi => by
  have h1 : i < (gQ 0 p.body).length := by omega
  unfold aD
  rw [aZ _ _ (by rw [List.length_append]; omega),List.getElem_append_left h1]
  exact List.getElem_mem h1
 have hi : ∀ i, i + 1 = (aD p).length → (aD p)[i]! = ⟨11, 0, 0, 0, []⟩ := fun i hi => by
  have h1 : i = (gQ 0 p.body).length := by omega
  unfold aD
  rw [aZ _ _ (by rw [List.length_append,List.length_singleton]; omega)]
  simp [h1]
 refine ⟨fun i h => ?_,fun i h => ⟨fun e => ?_,fun e => by rw [hi i e]⟩,fun i h ne => ?_⟩
 ·by_cases q : i + 1 < (aD p).length
  ·exact (uI p.body 4 0 hl _ (lo i q)).1
  ·rw [hi i (by omega)]; exact PtA.no (by simp)
 ·by_cases q : i + 1 < (aD p).length
  ·exact absurd e (uI p.body 4 0 hl _ (lo i q)).2.1
  ·omega
 ·by_cases q : i + 1 < (aD p).length
  ·exact (uI p.body 4 0 hl _ (lo i q)).2.2
  ·exact absurd (by rw [hi i (by omega)]) ne
theorem kG {xs:List Sl}{X:Int}(y:Sl){v:Nat}(hX:0 ≤ X ∧ X < xs.length) (hv:v < xs.length):(xs.set X.toNat y)[v]! = if X = (v:Int) then y else xs[v]!:=by
 rw [aP]
 by_cases h : X = (v : Int)
 ·rw [if_pos h,if_pos ⟨by omega,hv⟩]
 ·rw [if_neg h,if_neg (by omega)]
theorem eH (ts:List Int) (s:Mc) (v:Nat) (x:Sl):(bI ts s v x).1.slots = s.slots.set v x:=by
 unfold bI;split <;> rfl
theorem iI {ts:List Int}{s:Mc}{x:Pnt}(h:cA ts s x = false){v:Nat}(hv:v < ts.length) (hu:aQ ts x v ≠ 0):s.slots[v]!.set = true:=by
 unfold cA at h
 rw [List.any_eq_false] at h
 have h1 := h v (List.mem_range.2 hv)
 rw [decide_eq_true hu,Bool.true_and] at h1
 simpa using h1
theorem uP {t:Int}:w9 t = true ↔ t = 2 ∨ t = 4 := by unfold w9;simp
theorem I8 {ts:List Int}{s:Mc}{x:Pnt}(hl:s.slots.length = ts.length) (hu:cA ts s x = false) (A:PtA ts x) (hop:1 ≤ x.op ∧ x.op ≠ 11) (hx:x.op ≤ 8 → 0 ≤ x.x ∧ x.x < ts.length) (hy:3 ≤ x.op → x.op ≤ 7 → 0 ≤ x.y ∧ x.y < ts.length) (hgo:(bT ts s x).2 = -1) :
  ∃ y : Sl,y.set = true ∧ ∀ v,v < ts.length → (bT ts s x).1.slots[v]! = if aM x = (v : Int) then y else if aQ ts x v = 2 then gD else s.slots[v]! := by
 have hk : ∀ k,eG k ≠ -1 := fun k => by rcases p9 k with h|h <;> rw [h] <;> decide
 unfold bT at hgo ⊢
 by_cases h1 : x.op = 1
 ·rw [if_pos h1]
  have hxb := hx (by omega)
  refine ⟨⟨true,x.n,⟨0,0⟩⟩,rfl,fun v hv => ?_⟩
  rw [eH,kG _ (by omega) (by omega)]
  have e1 : aM x = x.x := by unfold aM;rw [if_pos (by omega)]
  have e2 : aQ ts x v = 0 := by unfold aQ;rw [if_neg (by omega),if_neg (by omega),if_neg (by omega),if_neg (by omega)]
  rw [e1,e2]; simp
 rw [if_neg h1] at hgo ⊢
 by_cases h2 : x.op = 2
 ·rw [if_pos h2] at hgo ⊢
  have hxb := hx (by omega)
  by_cases h200 : s.cells.length = 200
  ·rw [if_pos h200] at hgo;cases hgo
  ·rw [if_neg h200]
   refine ⟨⟨true,0,⟨s.cells.length,0⟩⟩,rfl,fun v hv => ?_⟩
   rw [eH]
   dsimp only
   rw [kG _ (by omega) (by omega)]
   have e1 : aM x = x.x := by unfold aM;rw [if_pos (by omega)]
   have e2 : aQ ts x v = 0 := by unfold aQ;rw [if_neg (by omega),if_neg (by omega),if_neg (by omega),if_neg (by omega)]
   rw [e1,e2]; simp
 rw [if_neg h2] at hgo ⊢
 by_cases h3 : x.op = 3
 ·rw [if_pos h3]
  have hxb := hx (by omega)
  have hyb := hy (by omega) (by omega)
  have hne := (A.t3 h3).2
  have e1 : aM x = x.x := by unfold aM;rw [if_pos (by omega)]
  have hyn : ((x.y.toNat : Nat) : Int) = x.y := by omega
  have hys : s.slots[x.y.toNat]!.set = true := iI hu (v := x.y.toNat) (by omega) (by
   unfold aQ;rw [if_pos h3,if_pos hyn]; split <;> decide)
  refine ⟨s.slots[x.y.toNat]!,hys,fun v hv => ?_⟩
  rw [eH]
  have e2 : aQ ts x v = if (v : Int) = x.y then (if ts[x.y.toNat]! = 2 ∨ ts[x.y.toNat]! = 4 then 2 else 1) else 0 := by
   unfold aQ;rw [if_pos h3]
   by_cases q : (v : Int) = x.y
   ·rw [if_pos q,if_pos q,q]
   ·rw [if_neg q,if_neg q]
  rw [e1,e2]
  by_cases ht : w9 ts[x.y.toNat]! = true
  ·rw [if_pos ht]
   dsimp only
   rw [kG _ (by rw [List.length_set]; omega) (by rw [List.length_set]; omega),kG _ (by omega) (by omega),if_pos (uP.1 ht)]
   by_cases q : x.x = (v : Int)
   ·rw [if_pos q,if_pos q]
   ·rw [if_neg q, if_neg q]
    by_cases q2 : x.y = (v : Int)
    ·rw [if_pos q2,if_pos q2.symm,if_pos rfl]
    ·have q3 : ¬ ((v : Int) = x.y) := fun h => q2 h.symm
     rw [if_neg q2,if_neg q3,if_neg (by decide : ¬ (0 : Int) = 2)]
  ·rw [if_neg ht, kG _ (by omega) (by omega), if_neg (fun h => ht (uP.2 h))]
   by_cases q : x.x = (v : Int)
   ·rw [if_pos q,if_pos q]
   ·rw [if_neg q, if_neg q]
    by_cases q2 : (v : Int) = x.y
    ·rw [if_pos q2,if_neg (by decide)]
    ·rw [if_neg q2,if_neg (by decide)]
 rw [if_neg h3] at hgo ⊢
 by_cases h4 : x.op = 4 ∨ x.op = 5
 ·rw [if_pos h4] at hgo ⊢
  have hxb := hx (by omega)
  split at hgo
  ·rename_i hz
   rw [if_pos hz]
   refine ⟨⟨true,0,qM s.cells s.slots[x.y.toNat]!.ptr (decide (x.op = 5))⟩,rfl,fun v hv => ?_⟩
   rw [eH]
   dsimp only
   rw [kG _ (by omega) (by omega)]
   have e1 : aM x = x.x := by unfold aM;rw [if_pos (by omega)]
   have e2 : aQ ts x v ≠ 2 := by unfold aQ;rw [if_neg (by omega),if_pos (by omega)]; split <;> decide
   rw [e1,if_neg e2]
  ·exact absurd hgo (hk _)
 rw [if_neg h4] at hgo ⊢
 by_cases h6 : x.op = 6
 ·rw [if_pos h6] at hgo ⊢
  have hxb := hx (by omega)
  split at hgo
  ·rename_i hz
   rw [if_pos hz]
   refine ⟨⟨true,oQ s.cells s.slots[x.y.toNat]!.ptr,⟨0,0⟩⟩,rfl,fun v hv => ?_⟩
   rw [eH]
   dsimp only
   rw [kG _ (by omega) (by omega)]
   have e1 : aM x = x.x := by unfold aM;rw [if_pos (by omega)]
   have e2 : aQ ts x v ≠ 2 := by unfold aQ;rw [if_neg (by omega),if_pos (by omega)]; split <;> decide
   rw [e1,if_neg e2]
  ·exact absurd hgo (hk _)
 rw [if_neg h6] at hgo ⊢
 have e1 : aM x = -1 := by unfold aM;rw [if_neg (by omega)]
 have e3 : ∀ v : Nat,aM x ≠ (v : Int) := fun v => by rw [e1]; omega
 by_cases h7 : x.op = 7
 ·rw [if_pos h7]
  refine ⟨⟨true,0,⟨0,0⟩⟩,rfl,fun v hv => ?_⟩
  have e2 : aQ ts x v ≠ 2 := by unfold aQ;rw [if_neg (by omega),if_neg (by omega),if_pos h7]; split;decide;split <;> decide
  rw [if_neg (e3 v),if_neg e2]
 rw [if_neg h7]
 by_cases h8 : x.op = 8
 ·rw [if_pos h8]
  have hxb := hx (by omega)
  refine ⟨⟨true,0,⟨0,0⟩⟩,rfl,fun v hv => ?_⟩
  dsimp only
  rw [if_neg (e3 v),kG _ (by omega) (by omega)]
  have e2 : aQ ts x v = if (v : Int) = x.x then 2 else 0 := by unfold aQ;rw [if_neg (by omega),if_neg (by omega),if_neg (by omega),if_pos h8]
  rw [e2]
  by_cases q : x.x = (v : Int)
  ·rw [if_pos q,if_pos q.symm,if_pos rfl]
  ·have q3 : ¬ ((v : Int) = x.x) := fun h => q h.symm
   rw [if_neg q,if_neg q3,if_neg (by decide : ¬ (0 : Int) = 2)]
 ·rw [if_neg h8, if_neg hop.2]
  refine ⟨⟨true,0,⟨0,0⟩⟩,rfl,fun v hv => ?_⟩
  have e2 : aQ ts x v ≠ 2 := by unfold aQ;rw [if_neg (by omega),if_neg (by omega),if_neg (by omega),if_neg (by omega)]; decide
  rw [if_neg (e3 v),if_neg e2]
section
variable {ts : List Int} {pts : List Pnt}
theorem WG.doS (w:WG ts pts) (A:WA ts pts){a:Nat}(ha:a < pts.length){s:Mc}(hl:s.slots.length = ts.length) (hu:cA ts s pts[a]! = false) (h11:pts[a]!.op ≠ 11) (hgo:(bT ts s pts[a]!).2 = -1) :
  ∃ y : Sl,y.set = true ∧ ∀ v,v < ts.length → (bT ts s pts[a]!).1.slots[v]! = if aM pts[a]! = (v : Int) then y else if aQ ts pts[a]! v = 2 then gD else s.slots[v]! :=
 I8 hl hu (A.a a ha) ⟨(w.op a ha).1,h11⟩ (fun h => ⟨(w.x a ha).1,(w.x a ha).2 h⟩) (fun h1 h2 => ⟨(w.y a ha).1,(w.y a ha).2 h1 h2⟩) hgo
theorem wZ (w:WG ts pts) (A:WA ts pts){a:Nat}(ha:a < pts.length) (h11:pts[a]!.op ≠ 11) (cs:List Int):cF pts a (g0 pts a cs).1:=by
 have key : ∀ j : Nat, j < pts[a]!.next.length → cF pts a (pts[a]!.next[j]!).toNat := fun j hj => by
  have hm := aU pts[a]!.next j hj
  refine ⟨ha,?_⟩
  rw [show (((pts[a]!.next[j]!).toNat : Nat) : Int) = pts[a]!.next[j]! by have := (w.nx a ha _ hm).1;omega]
  exact hm
 have h0 := A.n a ha h11
 unfold g0
 split
 ·rename_i h2
  split
  ·exact key 1 (by omega)
  ·rename_i c cs
   exact key _ (by omega)
 ·exact key 0 h0
def Ow (ts : List Int) (pts : List Pnt) (I : Nat → Mc → Prop) (r : Mc × Int × Nat) : Prop := r.2.1 = 1 ∨ ∃ s',r.2.2 < pts.length ∧ I r.2.2 s' ∧
 ((r.2.1 = 2 ∧ cA ts s' pts[r.2.2]! = true ∧ r.1 = s') ∨
  (cA ts s' pts[r.2.2]! = false ∧ (bT ts s' pts[r.2.2]!).2 ≠ -1 ∧ r.1 = (bT ts s' pts[r.2.2]!).1 ∧ r.2.1 = (bT ts s' pts[r.2.2]!).2))
theorem A8 {I:Nat → Mc → Prop}{a:Nat}{l:List Nat}{s:Mc}{last:Nat}(ha:a < pts.length) (hs:I a s)
  (hrec : cA ts s pts[a]! = false → (bT ts s pts[a]!).2 = -1 → Ow ts pts I (gX ts pts l (bT ts s pts[a]!).1 a)) : Ow ts pts I (gX ts pts (a :: l) s last) := by
 by_cases h1 : cA ts s pts[a]! = true
 ·have e : gX ts pts (a :: l) s last = (s, 2, a) := by unfold gX; rw [if_pos h1]
  rw [e]; exact .inr ⟨s,ha,hs,.inl ⟨rfl,h1,rfl⟩⟩
 ·have h1' : cA ts s pts[a]! = false := by simpa using h1
  by_cases h2 : (bT ts s pts[a]!).2 = -1
  ·have e : gX ts pts (a :: l) s last = gX ts pts l (bT ts s pts[a]!).1 a := by
    conv => lhs;unfold gX
    rw [if_neg h1,if_pos h2]
   rw [e]; exact hrec h1' h2
  ·have e : gX ts pts (a :: l) s last = ((bT ts s pts[a]!).1, (bT ts s pts[a]!).2, a) := by
    unfold gX;rw [if_neg h1,if_neg h2]
   rw [e]; exact .inr ⟨s,ha,hs,.inr ⟨h1',h2,rfl,rfl⟩⟩
theorem pJ {I:Nat → Mc → Prop}{a:Nat}{s:Mc}{last:Nat}(ha:a < pts.length) (hs:I a s) (h11:pts[a]!.op = 11):Ow ts pts I (gX ts pts [a] s last) :=
 A8 ha hs fun h1 h2 => by
  rw [uV h11] at h2
  rcases nW ts ts.length 0 s with q|q|q <;> (rw [q] at h2;cases h2)
theorem FA (w:WG ts pts) (A:WA ts pts) (I:Nat → Mc → Prop)
  (hI : ∀ a s k,a < pts.length → pts[a]!.op ≠ 11 → cF pts a k → I a s → cA ts s pts[a]! = false → (bT ts s pts[a]!).2 = -1 → I k (bT ts s pts[a]!).1) :
  ∀ n a cs s last,a < pts.length → I a s → Ow ts pts I (gX ts pts (dH pts n a cs).1 s last) := by
 intro n
 induction n with
 | zero =>
  intro a cs s last ha hs
  by_cases h11 : pts[a]!.op = 11
  ·have e : (dH pts 0 a cs).1 = [a] := by unfold dH; rw [if_pos h11]
   rw [e]; exact pJ ha hs h11
  ·have e : (dH pts 0 a cs).1 = [] := by rw [dH, if_neg h11]
   rw [e]; exact .inl rfl
 | succ n ih =>
  intro a cs s last ha hs
  by_cases h11 : pts[a]!.op = 11
  ·have e : (dH pts (n + 1) a cs).1 = [a] := by unfold dH; rw [if_pos h11]
   rw [e]; exact pJ ha hs h11
  ·have e : (dH pts (n + 1) a cs).1 = a :: (dH pts n (g0 pts a cs).1 (g0 pts a cs).2).1 := by rw [dH, if_neg h11]
   have he := wZ w A ha h11 cs
   rw [e]
   exact A8 ha hs fun h1 h2 => ih _ _ _ _ (cT w he) (hI a s _ ha h11 he hs h1 h2)
end
section
variable {ts : List Int} {pts : List Pnt}
structure Vs (ts : List Int) (pts : List Pnt) (a : Nat) (s : Mc) : Prop where
 l : s.slots.length = ts.length
 u : ∀ v,v < ts.length → s.slots[v]!.set = false → Na ts pts (a,v)
 m : ∀ v,v < ts.length → s.slots[v]!.set = true → Mb ts pts (a,v)
theorem pP (ts:List Int) (s:Mc) (v:Nat) (x:Sl):(bI ts s v x).1.slots.length = s.slots.length := by rw [eH,List.length_set]
theorem AI (ts:List Int):∀ n v (s:Mc),(cL ts n v s).1.slots.length = s.slots.length
 | 0,_,_ => rfl
 | n + 1, v, s => by
  unfold cL;split
  ·split
   ·rw [AI ts n]; exact List.length_set
   ·rfl
  ·exact AI ts n _ _
theorem PX (ts:List Int) (s:Mc) (x:Pnt):(bT ts s x).1.slots.length = s.slots.length:=by
 unfold bT
 split
 ·exact pP _ _ _ _
 split
 ·split
  ·rfl
  ·exact pP _ _ _ _
 split
 ·rw [pP]; split
  ·exact List.length_set
  ·rfl
 split
 ·split
  ·exact pP _ _ _ _
  ·rfl
 split
 ·split
  ·exact pP _ _ _ _
  ·rfl
 split
 ·rfl
 split
 ·exact List.length_set
 split
 ·exact AI _ _ _ _
 ·rfl
theorem Vs.start:Vs ts pts 0 (mc0 ts.length):=by
 refine ⟨by simp [mc0],fun v hv _ => .base ⟨hv,.inl rfl⟩,fun v hv h => ?_⟩
 have e : (mc0 ts.length).slots[v]! = gD := by
  show (List.replicate ts.length gD)[v]! = gD
  rw [aZ _ _ (by simpa using hv)]; simp
 rw [e] at h;cases h
theorem Vs.step (w:WG ts pts) (A:WA ts pts) (a:Nat) (s:Mc) (k:Nat) (ha:a < pts.length) (h11:pts[a]!.op ≠ 11) (he:cF pts a k) (h:Vs ts pts a s) (hu:cA ts s pts[a]! = false) (hgo:(bT ts s pts[a]!).2 = -1):Vs ts pts k (bT ts s pts[a]!).1:=by
 obtain ⟨y,hy,hs⟩ := w.doS A ha h.l hu h11 hgo
 refine ⟨by rw [PX]; exact h.l,fun v hv hf => ?_,fun v hv ht => ?_⟩
 ·rw [hs v hv] at hf
  by_cases h1 : aM pts[a]! = (v : Int)
  ·rw [if_pos h1,hy] at hf;cases hf
  ·rw [if_neg h1] at hf
   by_cases h2 : aQ ts pts[a]! v = 2
   ·exact .base ⟨hv,.inr ⟨a,he,h2,h1⟩⟩
   ·rw [if_neg h2] at hf
    exact .step (a := (a,v)) (h.u v hv hf) ⟨rfl,he,h1⟩
 ·rw [hs v hv] at ht
  by_cases h1 : aM pts[a]! = (v : Int)
  ·exact .base ⟨a,he,h1⟩
  ·rw [if_neg h1] at ht
   by_cases h2 : aQ ts pts[a]! v = 2
   ·rw [if_pos h2] at ht;cases ht
   ·rw [if_neg h2] at ht
    exact .step (a := (a,v)) (h.m v hv ht) ⟨rfl,he,h2⟩
theorem uH {s:Mc}{x:Pnt}(h:cA ts s x = true):∃ v,v < ts.length ∧ aQ ts x v ≠ 0 ∧ s.slots[v]!.set = false:=by
 unfold cA at h
 obtain ⟨v,hv,h2⟩ := List.any_eq_true.1 h
 rw [Bool.and_eq_true,decide_eq_true_eq] at h2
 exact ⟨v,List.mem_range.1 hv,h2.1,by simpa using h2.2⟩
end
theorem oW {α:Type}[Inhabited α] {l r:List α}{c:Nat}(h:c < l.length):(l ++ r)[c]! = l[c]!:=by
 rw [aZ _ _ (by rw [List.length_append]; omega),aZ _ _ h,List.getElem_append_left h]
theorem K8 {α:Type}[Inhabited α] {l:List α}{x:α}:(l ++ [x])[l.length]! = x:=by
 rw [aZ _ _ (by rw [List.length_append,List.length_singleton]; omega)]; simp
theorem QF {stk:List Tg}(hl:0 < stk.length) (h:stk[0]! = ⟨0,true⟩):b8 stk 0 = 0:=by
 cases stk with
 | nil => simp at hl
 | cons t l =>
  have ht : t = ⟨0,true⟩ := h
  subst ht
  unfold b8
  rw [List.findIdx?_cons]
  simp
def Hd (m : List Cl) : Prop := ∀ c,c < m.length → m[c]!.stk[0]! = ⟨0,true⟩
theorem Jr {m:List Cl}(h:OkM m) (hh:Hd m){x:Pt}(hx:0 ≤ x.cell ∧ x.cell < m.length) (ht:x.tag = 0) (ha:m[x.cell.toNat]!.alive = true) (wr:Bool):a7 m x wr = 0:=by
 have hc := h.at (k := x.cell.toNat) (by omega)
 have hs := hh x.cell.toNat (by omega)
 have h0 := QF (by have := hc.l;omega) hs
 unfold a7
 rw [if_neg (fun q => q hx),if_neg (by rw [ha]; decide),ht,h0,if_neg (by decide),if_neg]
 rintro ⟨_,h2⟩
 have e : m[x.cell.toNat]!.stk[(0 : Int).toNat]! = m[x.cell.toNat]!.stk[0]! := rfl
 rw [e,hs] at h2;cases h2
theorem z5 {m:List Cl}(hh:Hd m){k:Nat}{c:Cl}(hc:c.stk[0]! = ⟨0,true⟩):Hd (m.set k c) := fun j hj => by
 rw [List.length_set] at hj
 rw [aP]
 split
 ·exact hc
 ·exact hh j hj
theorem tW {m:List Cl}(h:OkM m) (hh:Hd m){k:Nat}(hk:k < m.length) (x:Pt) (wr:Bool):(iS m[k]! x wr).stk[0]! = ⟨0,true⟩:=by
 have hl := (h.at hk).l
 show (eZ m[k]!.stk _ wr)[0]! = _
 rw [(y1 (by omega)).1]; exact hh k hk
theorem Hd.tch {m:List Cl}(h:OkM m) (hh:Hd m) (x:Pt) (wr:Bool):Hd (cO m x wr):=by
 unfold cO;split
 ·rename_i hk;exact z5 hh (tW h hh (dK hk).2.2 x wr)
 ·exact hh
theorem Hd.fr {m:List Cl}(h:OkM m) (hh:Hd m) (x:Pt):Hd (gY m x):=by
 unfold gY;split
 ·rename_i hk;exact z5 hh (tW h hh (dK hk).2.2 x true)
 ·exact hh
theorem Hd.wr {m:List Cl}(h:OkM m) (hh:Hd m) (x:Pt) (v:Int):Hd (pI m x v):=by
 unfold pI
 by_cases hk : qC m x v = 0
 ·rw [if_pos hk]
  unfold qC at hk
  by_cases hv : 0 ≤ v ∧ v ≤ 9
  ·rw [if_pos hv] at hk;exact z5 hh (tW h hh (dK hk).2.2 x true)
  ·rw [if_neg hv] at hk;cases hk
 ·rw [if_neg hk]; exact hh
theorem mF {m:List Cl}{x:Pt}{u:Bool}(h:kZ m x u = 0):a7 m x u = 0:=by
 unfold kZ at h
 by_cases h0 : a7 m x u = 0
 ·exact h0
 ·rw [if_neg h0] at h;exact h
theorem Hd.ln {m:List Cl}(h:OkM m) (hh:Hd m) (x:Pt) (u:Bool):Hd (j9 m x u):=by
 unfold j9;split
 ·rename_i hk
  have h0 := dK (mF hk)
  have h1 := tW h hh h0.2.2 x u
  have h2 := ((h.at h0.2.2).tch x u).l
  refine z5 hh ?_
  show ((iS m[x.cell.toNat]! x u).stk ++ [_])[0]! = _
  rw [oW (by omega)]; exact h1
 ·exact hh
theorem Hd.nw {m:List Cl}(hh:Hd m) (v:Int):Hd (m ++ [o9 v]) := fun c hc => by
 rw [List.length_append,List.length_singleton] at hc
 by_cases q : c < m.length
 ·rw [oW q]; exact hh c q
 ·have e : c = m.length := by omega
  subst e
  rw [K8]; rfl
def vL (m : List Cl) (c : Nat) : Bool := m[c]!.alive
theorem tZ {m:List Cl}{k c:Nat}{x:Cl}(hc:c < m.length):vL (m.set k x) c = if k = c then x.alive else vL m c:=by
 unfold vL
 rw [aP]
 by_cases h : k = c
 ·rw [if_pos ⟨h,hc⟩,if_pos h]
 ·rw [if_neg (fun q => h q.1),if_neg h]
theorem Fs (m:List Cl) (x:Pt) (wr:Bool) (c:Nat) (hc:c < m.length):vL (cO m x wr) c = vL m c:=by
 unfold cO;split
 ·rw [tZ hc]; split
  ·rename_i e;subst e;rfl
  ·rfl
 ·rfl
theorem J9 (m:List Cl) (x:Pt) (u:Bool) (c:Nat) (hc:c < m.length):vL (j9 m x u) c = vL m c:=by
 unfold j9;split
 ·rw [tZ hc]; split
  ·rename_i e;subst e;rfl
  ·rfl
 ·rfl
theorem PY (m:List Cl) (x:Pt) (v:Int) (c:Nat) (hc:c < m.length):vL (pI m x v) c = vL m c:=by
 unfold pI;split
 ·rw [tZ hc]; split
  ·rename_i e;subst e;rfl
  ·rfl
 ·rfl
theorem Ej {m:List Cl}{x:Pt}(hk:a7 m x true = 0) (c:Nat) (hc:c < m.length):vL (gY m x) c = if x.cell = (c:Int) then false else vL m c:=by
 have h0 := dK hk
 unfold gY
 rw [if_pos hk,tZ hc]
 by_cases q : x.cell = (c : Int)
 ·rw [if_pos q,if_pos (by omega)]
 ·rw [if_neg q,if_neg (by omega)]
structure Own (ts : List Int) (s : Mc) (X : Option Nat) : Prop where
 k : OkS ts.length s
 h : Hd s.cells
 o : ∀ v,v < ts.length → ts[v]! = 2 → s.slots[v]!.set = true → 0 ≤ s.slots[v]!.ptr.cell ∧ s.slots[v]!.ptr.cell < s.cells.length ∧ s.slots[v]!.ptr.tag = 0 ∧ vL s.cells s.slots[v]!.ptr.cell.toNat = true
 d : ∀ v u,v < ts.length → u < ts.length → ts[v]! = 2 → ts[u]! = 2 → s.slots[v]!.set = true → s.slots[u]!.set = true → s.slots[v]!.ptr.cell = s.slots[u]!.ptr.cell → v = u
 a : ∀ c,c < s.cells.length → vL s.cells c = true → X = some c ∨ ∃ v,v < ts.length ∧ ts[v]! = 2 ∧ s.slots[v]!.set = true ∧ s.slots[v]!.ptr.cell = (c : Int)
 x : ∀ c,X = some c → c < s.cells.length ∧ vL s.cells c = true ∧ ∀ v,v < ts.length → ts[v]! = 2 → s.slots[v]!.set = true → s.slots[v]!.ptr.cell ≠ (c : Int)
theorem Own.k0 {ts:List Int}{s:Mc}{X:Option Nat}(w:Own ts s X){v:Nat}(hv:v < ts.length) (h2:ts[v]! = 2) (hs:s.slots[v]!.set = true) (wr:Bool):a7 s.cells s.slots[v]!.ptr wr = 0:=by
 obtain ⟨h1,h3,h4,h5⟩ := w.o v hv h2 hs
 exact Jr w.k.m w.h ⟨h1,h3⟩ h4 h5 wr
theorem Own.cells {ts:List Int}{s:Mc}{X:Option Nat}(w:Own ts s X){m:List Cl}(hm:OkM m) (hh:Hd m) (hl:m.length = s.cells.length) (ha:∀ c,c < s.cells.length → vL m c = vL s.cells c) (r:List Int):Own ts ⟨s.slots,m,r⟩ X:=by
 refine ⟨⟨hm,w.k.l⟩,hh,fun v hv h2 hs => ?_,w.d,fun c hc h => ?_,fun c hc => ?_⟩
 ·obtain ⟨h1, h3, h4, h5⟩ := w.o v hv h2 hs
  exact ⟨h1,by show _ < (m.length : Int);rw [hl]; exact h3,h4,by show vL m _ = true;rw [ha _ (show s.slots[v]!.ptr.cell.toNat < s.cells.length by omega)]; exact h5⟩
 ·have hc' : c < m.length := hc
  exact w.a c (by omega) (by rw [← ha c (by omega)]; exact h)
 ·obtain ⟨h1, h3, h4⟩ := w.x c hc
  exact ⟨by show c < m.length;omega,by show vL m c = true;rw [ha c h1]; exact h3,h4⟩
theorem Own.put0 {ts:List Int}{s:Mc}{X:Option Nat}(w:Own ts s X){v:Nat}(h2:ts[v]! ≠ 2) (y:Sl):Own ts (bI ts s v y).1 X ∧ (bI ts s v y).2 = -1:=by
 have hl : (s.slots.set v y).length = ts.length := by rw [List.length_set]; exact w.k.l
 have e : ∀ u : Nat, ts[u]! = 2 → (s.slots.set v y)[u]! = s.slots[u]! := fun u hu => by
  rw [aP,if_neg]; rintro ⟨q,_⟩; rw [q] at h2;exact h2 hu
 unfold bI
 rw [if_neg (fun h => h2 h.1)]
 refine ⟨⟨⟨w.k.m,hl⟩,w.h,fun u hu h hs => ?_,fun u u' hu hu' h h' hs hs' hc => ?_,fun c hc h => ?_,fun c hc => ?_⟩,rfl⟩
 ·dsimp only at hs ⊢; rw [e u h] at hs ⊢; exact w.o u hu h hs
 ·dsimp only at hs hs' hc;rw [e u h] at hs hc;rw [e u' h'] at hs' hc;exact w.d u u' hu hu' h h' hs hs' hc
 ·rcases w.a c hc h with q | ⟨u, q1, q2, q3, q4⟩
  ·exact .inl q
  ·exact .inr ⟨u,q1,q2,by dsimp only;rw [e u q2]; exact q3,by dsimp only;rw [e u q2]; exact q4⟩
 ·obtain ⟨h1, h3, h4⟩ := w.x c hc
  exact ⟨h1,h3,fun u q1 q2 q3 => by dsimp only at q3 ⊢; rw [e u q2] at q3 ⊢; exact h4 u q1 q2 q3⟩
theorem Own.free {ts:List Int}{s:Mc}{X:Option Nat}(w:Own ts s X){v:Nat}(hv:v < ts.length) (h2:ts[v]! = 2) (hs:s.slots[v]!.set = true) (y:Sl) (hy:y.set = false) (r:List Int) :
  Own ts ⟨s.slots.set v y,gY s.cells s.slots[v]!.ptr,r⟩ X := by
 have hk := w.k0 hv h2 hs true
 have hlen := ND s.cells s.slots[v]!.ptr
 have hl : (s.slots.set v y).length = ts.length := by rw [List.length_set]; exact w.k.l
 have e : ∀ u : Nat, u ≠ v → (s.slots.set v y)[u]! = s.slots[u]! := fun u hu => by
  rw [aP,if_neg]; rintro ⟨q,_⟩; exact hu q.symm
 have ev : (s.slots.set v y)[v]! = y := by rw [aP,if_pos ⟨rfl,by rw [w.k.l]; exact hv⟩]
 have nev : ∀ u : Nat,(s.slots.set v y)[u]!.set = true → u ≠ v := fun u h q => by rw [q,ev,hy] at h;cases h
 obtain ⟨b1,b2,b3,b4⟩ := w.o v hv h2 hs
 refine ⟨⟨w.k.m.fr _,hl⟩,w.h.fr w.k.m _,fun u hu h hs' => ?_,fun u u' hu hu' h h' q q' hc => ?_,fun c hc h => ?_,fun c hc => ?_⟩
 ·have hne := nev u hs'
  dsimp only at hs' ⊢
  rw [e u hne] at hs' ⊢
  obtain ⟨c1,c2,c3,c4⟩ := w.o u hu h hs'
  refine ⟨c1,by rw [hlen]; exact c2,c3,?_⟩
  rw [Ej hk _ (by omega),if_neg]
  ·exact c4
  ·intro q;exact hne (w.d u v hu hv h h2 hs' hs (by omega))
 ·have n1 := nev u q
  have n2 := nev u' q'
  dsimp only at q q' hc
  rw [e u n1] at q hc;rw [e u' n2] at q' hc
  exact w.d u u' hu hu' h h' q q' hc
 ·dsimp only at hc h
  rw [hlen] at hc
  rw [Ej hk c hc] at h
  by_cases q : s.slots[v]!.ptr.cell = (c : Int)
  ·rw [if_pos q] at h;cases h
  ·rw [if_neg q] at h
   rcases w.a c hc h with q2 | ⟨u,q1,q2,q3,q4⟩
   ·exact .inl q2
   ·have hne : u ≠ v := fun e' => q (by rw [← e']; exact q4)
    exact .inr ⟨u,q1,q2,by dsimp only;rw [e u hne]; exact q3,by dsimp only;rw [e u hne]; exact q4⟩
 ·obtain ⟨h1, h3, h4⟩ := w.x c hc
  refine ⟨by dsimp only;rw [hlen]; exact h1,?_,fun u q1 q2 q3 => ?_⟩
  ·dsimp only;rw [Ej hk c h1,if_neg (h4 v hv h2 hs)]; exact h3
  ·have hne := nev u q3
   dsimp only at q3 ⊢
   rw [e u hne] at q3 ⊢
   exact h4 u q1 q2 q3
theorem Own.take {ts:List Int}{s:Mc}{c:Nat}(w:Own ts s (some c)){v:Nat}(hv:v < ts.length) (h2:ts[v]! = 2) (hs:s.slots[v]!.set = false) (y:Sl) (hy:y.set = true) (hp:y.ptr = ⟨c,0⟩):Own ts ⟨s.slots.set v y,s.cells,s.read⟩ none:=by
 have hl : (s.slots.set v y).length = ts.length := by rw [List.length_set]; exact w.k.l
 have e : ∀ u : Nat, u ≠ v → (s.slots.set v y)[u]! = s.slots[u]! := fun u hu => by
  rw [aP,if_neg]; rintro ⟨q,_⟩; exact hu q.symm
 have ev : (s.slots.set v y)[v]! = y := by rw [aP,if_pos ⟨rfl,by rw [w.k.l]; exact hv⟩]
 obtain ⟨x1,x2,x3⟩ := w.x c rfl
 refine ⟨⟨w.k.m,hl⟩,w.h,fun u hu h hs' => ?_,fun u u' hu hu' h h' q q' hc => ?_,fun c' hc h => ?_,fun c' hc => by cases hc⟩
 ·by_cases q : u = v
  ·subst q; dsimp only; rw [ev, hp]
   exact ⟨by dsimp only;omega,by dsimp only;omega,rfl,by simpa using x2⟩
  ·dsimp only at hs' ⊢; rw [e u q] at hs' ⊢; exact w.o u hu h hs'
 ·dsimp only at q q' hc
  by_cases n1 : u = v
  ·by_cases n2 : u' = v
   ·rw [n1,n2]
   ·exfalso;rw [n1,ev,hp,e u' n2] at hc;rw [e u' n2] at q'; exact x3 u' hu' h' q' hc.symm
  ·by_cases n2 : u' = v
   ·exfalso;rw [n2,ev,hp,e u n1] at hc;rw [e u n1] at q;exact x3 u hu h q hc
   ·rw [e u n1] at q hc;rw [e u' n2] at q' hc;exact w.d u u' hu hu' h h' q q' hc
 ·dsimp only at hc h
  rcases w.a c' hc h with q2 | ⟨u,q1,q2,q3,q4⟩
  ·cases q2
   exact .inr ⟨v,hv,h2,by dsimp only;rw [ev]; exact hy,by dsimp only;rw [ev,hp]⟩
  ·have hne : u ≠ v := fun e' => by rw [e', hs] at q3; cases q3
   exact .inr ⟨u,q1,q2,by dsimp only;rw [e u hne]; exact q3,by dsimp only;rw [e u hne]; exact q4⟩
theorem Lj {xs:List Sl}(v:Nat) (y z:Sl):(xs.set v y).set v z = xs.set v z := by simp
theorem Own.putB {ts:List Int}{s:Mc}{c:Nat}(w:Own ts s (some c)){v:Nat}(hv:v < ts.length) (h2:ts[v]! = 2) (y:Sl) (hy:y.set = true) (hp:y.ptr = ⟨c,0⟩):Own ts (bI ts s v y).1 none ∧ (bI ts s v y).2 = -1:=by
 unfold bI
 by_cases hs : s.slots[v]!.set = true
 ·rw [if_pos ⟨h2, hs⟩]
  have hk := w.k0 hv h2 hs true
  have w1 := w.free hv h2 hs gD rfl s.read
  have w2 := w1.take hv h2 (by dsimp only;rw [aP,if_pos ⟨rfl,by rw [w.k.l]; exact hv⟩]; rfl) y hy hp
  dsimp only at w2 ⊢
  rw [Lj] at w2
  refine ⟨w2,?_⟩
  unfold kP;rw [if_pos hk]
 ·rw [if_neg (fun h => hs h.2)]
  exact ⟨w.take hv h2 (by simpa using hs) y hy hp,rfl⟩
section
variable {ts : List Int} {s : Mc}
theorem Own.new (w:Own ts s none){n:Int}(hn:0 ≤ n ∧ n ≤ 9) (hl:s.cells.length ≠ 200) (r:List Int):Own ts ⟨s.slots,s.cells ++ [o9 n],r⟩ (some s.cells.length):=by
 have hlen : (s.cells ++ [o9 n]).length = s.cells.length + 1 := by rw [List.length_append,List.length_singleton]
 have lo : ∀ c, c < s.cells.length → vL (s.cells ++ [o9 n]) c = vL s.cells c := fun c hc => by
  unfold vL
  rw [oW hc]
 have hi : vL (s.cells ++ [o9 n]) s.cells.length = true := by
  unfold vL;rw [K8]; rfl
 refine ⟨⟨w.k.m.nw hn (by have := w.k.m.l;omega),w.k.l⟩,w.h.nw n,fun v hv h2 hs => ?_,w.d,fun c hc h => ?_,fun c hc => ?_⟩
 ·obtain ⟨h1, h3, h4, h5⟩ := w.o v hv h2 hs
  exact ⟨h1,by dsimp only;omega,h4,by dsimp only;rw [lo _ (by omega)]; exact h5⟩
 ·dsimp only at hc h
  by_cases q : c < s.cells.length
  ·rw [lo c q] at h
   rcases w.a c q h with q2|q2
   ·cases q2
   ·exact .inr q2
  ·exact .inl (by congr 1;omega)
 ·cases hc
  refine ⟨by dsimp only;omega,hi,fun v hv h2 hs => ?_⟩
  obtain ⟨h1,h3,h4,h5⟩ := w.o v hv h2 hs
  dsimp only;omega
theorem Own.give (w:Own ts s none){v:Nat}(hv:v < ts.length) (h2:ts[v]! = 2) (hs:s.slots[v]!.set = true):Own ts ⟨s.slots.set v gD,s.cells,s.read⟩ (some s.slots[v]!.ptr.cell.toNat):=by
 have hl : (s.slots.set v gD).length = ts.length := by rw [List.length_set]; exact w.k.l
 have e : ∀ u : Nat, u ≠ v → (s.slots.set v gD)[u]! = s.slots[u]! := fun u hu => by
  rw [aP,if_neg]; rintro ⟨q,_⟩; exact hu q.symm
 have ev : (s.slots.set v gD)[v]! = gD := by rw [aP,if_pos ⟨rfl,by rw [w.k.l]; exact hv⟩]
 have nev : ∀ u : Nat,(s.slots.set v gD)[u]!.set = true → u ≠ v := fun u h q => by rw [q,ev] at h;cases h
 obtain ⟨b1,b2,b3,b4⟩ := w.o v hv h2 hs
 refine ⟨⟨w.k.m,hl⟩,w.h,fun u hu h hs' => ?_,fun u u' hu hu' h h' q q' hc => ?_,fun c hc h => ?_,fun c hc => ?_⟩
 ·have hne := nev u hs'
  dsimp only at hs' ⊢; rw [e u hne] at hs' ⊢; exact w.o u hu h hs'
 ·have n1 := nev u q
  have n2 := nev u' q'
  dsimp only at q q' hc
  rw [e u n1] at q hc;rw [e u' n2] at q' hc
  exact w.d u u' hu hu' h h' q q' hc
 ·rcases w.a c hc h with q2 | ⟨u, q1, q2, q3, q4⟩
  ·cases q2
  ·by_cases q : u = v
   ·subst q;exact .inl (by congr 1;omega)
   ·exact .inr ⟨u,q1,q2,by dsimp only;rw [e u q]; exact q3,by dsimp only;rw [e u q]; exact q4⟩
 ·cases hc
  refine ⟨by dsimp only;omega,b4,fun u q1 q2 q3 => ?_⟩
  have hne := nev u q3
  dsimp only at q3 ⊢
  rw [e u hne] at q3 ⊢
  intro q;exact hne (w.d u v q1 hv q2 h2 q3 hs (by omega))
theorem Own.clr (w:Own ts s none){v:Nat}(h2:ts[v]! ≠ 2):Own ts ⟨s.slots.set v gD,s.cells,s.read⟩ none:=by
 have h := (w.put0 h2 gD).1
 unfold bI at h
 rwa [if_neg (fun h => h2 h.1)] at h
theorem Own.do (w:Own ts s none){x:Pnt}(A:PtA ts x) (h11:x.op ≠ 11) (hx:x.op ≤ 8 → 0 ≤ x.x ∧ x.x < ts.length) (hop:1 ≤ x.op) (hy:3 ≤ x.op → x.op ≤ 7 → 0 ≤ x.y ∧ x.y < ts.length) (hu:cA ts s x = false):Own ts (bT ts s x).1 none:=by
 unfold bT
 by_cases h1 : x.op = 1
 ·rw [if_pos h1]; exact (w.put0 (by rw [A.t1 h1]; decide) _).1
 rw [if_neg h1]
 by_cases h2 : x.op = 2
 ·rw [if_pos h2]
  split
  ·exact w
  ·rename_i h200
   have hxb := hx (by omega)
   exact ((w.new (A.n (.inr h2)) h200 s.read).putB (v := x.x.toNat) (by omega) (A.t2 (.inl h2)) _ rfl rfl).1
 rw [if_neg h2]
 by_cases h3 : x.op = 3
 ·rw [if_pos h3]
  have hxb := hx (by omega)
  have hyb := hy (by omega) (by omega)
  obtain ⟨ht,hne⟩ := A.t3 h3
  have hyn : ((x.y.toNat : Nat) : Int) = x.y := by omega
  have hys : s.slots[x.y.toNat]!.set = true := iI hu (v := x.y.toNat) (by omega) (by
   unfold aQ;rw [if_pos h3,if_pos hyn]; split <;> decide)
  by_cases q2 : ts[x.y.toNat]! = 2
  ·rw [if_pos (uP.2 (.inl q2))]
   have g := w.give (v := x.y.toNat) (by omega) q2 hys
   obtain ⟨b1,b2,b3,b4⟩ := w.o x.y.toNat (by omega) q2 hys
   refine (g.putB (v := x.x.toNat) (by omega) (by rw [ht]; exact q2) _ hys ?_).1
   generalize s.slots[x.y.toNat]! = z at b1 b3
   obtain ⟨zs,zn,zc,zt⟩ := z
   dsimp only at b1 b3 ⊢
   rw [b3,Int.toNat_of_nonneg b1]
  ·split
   ·exact ((w.clr (v := x.y.toNat) q2).put0 (by rw [ht]; exact q2) _).1
   ·exact (w.put0 (by rw [ht]; exact q2) _).1
 rw [if_neg h3]
 by_cases h4 : x.op = 4 ∨ x.op = 5
 ·rw [if_pos h4]
  have hxt : ts[x.x.toNat]! ≠ 2 := by
   rcases h4 with h4|h4
   ·rw [(A.t4 h4).1]; decide
   ·rw [(A.t5 h4).1]; decide
  split
  ·exact ((w.cells (w.k.m.ln _ _) (w.h.ln w.k.m _ _) (FM _ _ _) (fun c hc => J9 _ _ _ c hc) _).put0 hxt _).1
  ·exact w
 rw [if_neg h4]
 by_cases h6 : x.op = 6
 ·rw [if_pos h6]
  have hxt : ts[x.x.toNat]! ≠ 2 := by rw [(A.t6 h6).1]; decide
  split
  ·exact ((w.cells (w.k.m.tch _ _) (w.h.tch w.k.m _ _) (mU _ _ _) (fun c hc => Fs _ _ _ c hc) _).put0 hxt _).1
  ·exact w
 rw [if_neg h6]
 by_cases h7 : x.op = 7
 ·rw [if_pos h7]; exact w.cells (w.k.m.wr _ _) (w.h.wr w.k.m _ _) (M5 _ _ _) (fun c hc => PY _ _ _ c hc) _
 rw [if_neg h7]
 by_cases h8 : x.op = 8
 ·rw [if_pos h8]
  have hxb := hx (by omega)
  have hxn : ((x.x.toNat : Nat) : Int) = x.x := by omega
  have hxs : s.slots[x.x.toNat]!.set = true := iI hu (v := x.x.toNat) (by omega) (by
   unfold aQ;rw [if_neg (by omega),if_neg (by omega),if_neg (by omega),if_pos h8,if_pos hxn]; decide)
  exact w.free (v := x.x.toNat) (by omega) (A.t2 (.inr h8)) hxs gD rfl _
 rw [if_neg h8,if_neg h11]
 exact w
end
theorem Own.fin {ts:List Int}:∀ n v (s:Mc),Own ts s none → v + n = ts.length → (∀ u,u < v → ts[u]! = 2 → s.slots[u]!.set = false) →
  (cL ts n v s).2 = 0 ∧ Own ts (cL ts n v s).1 none ∧ ∀ u,u < ts.length → ts[u]! = 2 → (cL ts n v s).1.slots[u]!.set = false
 | 0,v,s,w,hv,h => ⟨rfl,w,fun u hu h2 => h u (by omega) h2⟩
 | n + 1, v, s, w, hv, h => by
  unfold cL
  by_cases q : ts[v]! = 2 ∧ s.slots[v]!.set = true
  ·rw [if_pos q, if_pos (w.k0 (by omega) q.1 q.2 true)]
   refine Own.fin n (v + 1) _ (w.free (by omega) q.1 q.2 gD rfl _) (by omega) fun u hu h2 => ?_
   dsimp only
   rw [aP]
   by_cases e : v = u
   ·rw [if_pos ⟨e,by rw [w.k.l]; omega⟩]; rfl
   ·rw [if_neg (fun h => e h.1)]; exact h u (by omega) h2
  ·rw [if_neg q]
   refine Own.fin n (v + 1) s w (by omega) fun u hu h2 => ?_
   by_cases e : u = v
   ·subst e
    cases hs : s.slots[u]!.set with
    | false => rfl
    | true => exact absurd ⟨h2,hs⟩ q
   ·exact h u (by omega) h2
theorem Own.start (ts:List Int):Own ts (mc0 ts.length) none:=by
 have e : ∀ v, v < ts.length → (mc0 ts.length).slots[v]! = gD := fun v hv => by
  show (List.replicate ts.length gD)[v]! = gD
  rw [aZ _ _ (by simpa using hv)]; simp
 refine ⟨OkS.mc0 _,fun c hc => ?_,fun v hv _ hs => ?_,fun v u hv _ _ _ hs => ?_,fun c hc => ?_,fun c hc => by cases hc⟩
 ·have : c < ([] : List Cl).length := hc
  simp at this
 ·rw [e v hv] at hs;cases hs
 ·rw [e v hv] at hs;cases hs
 ·have : c < ([] : List Cl).length := hc
  simp at this
theorem v8 (ts:List Int):∀ n v (s:Mc),(cL ts n v s).1.read = s.read
 | 0,_,_ => rfl
 | n + 1, v, s => by
  unfold cL;split
  ·split
   ·exact v8 ts n _ _
   ·rfl
  ·exact v8 ts n _ _
theorem lB (ts:List Int) (s:Mc) (v:Nat) (x:Sl):(bI ts s v x).1.read = s.read := by unfold bI;split <;> rfl
structure Co where
 val : Int
 alive : Bool
 next : Int
 av : AV
instance : Inhabited Co:=⟨⟨0,false,0,.imm 0 []⟩⟩
def e7 (c : Co) : List AV := [iv c.val,bv c.alive,iv c.next,c.av]
instance : FlT e7 4:=⟨fun _ => rfl⟩
instance : FE e7 (fun c => [iv c.val,bv c.alive,iv c.next,c.av]):=⟨fun _ => rfl⟩
def tD (c : Cl) : Co := ⟨c.val,c.alive,c.next,sl cG c.stk⟩
def dB (m : List Cl) (j : Nat) (X : AV) : List Co := (m.map tD).set j { tD m[j]! with av := X }
theorem lG (m:List Cl):flat e7 (m.map tD) = flat bJ m:=by
 unfold flat;rw [List.flatMap_map]; rfl
theorem c7 {m:List Cl}{j:Nat}{X:AV}:(dB m j X).length = m.length := by unfold dB;rw [List.length_set,List.length_map]
theorem iC {m:List Cl}{j:Nat}{X:AV}(h:j < m.length):(dB m j X)[j]! = ⟨m[j]!.val,m[j]!.alive,m[j]!.next,X⟩:=by
 unfold dB
 rw [aZ _ _ (by rw [List.length_set,List.length_map]; exact h),List.getElem_set_self]; rfl
theorem j1 {m:List Cl}{j:Nat}{X:AV}(h:j < m.length):flat e7 (dB m j X) = flat bJ (m.take j) ++ ([iv m[j]!.val,bv m[j]!.alive,iv m[j]!.next] ++ X :: flat bJ (m.drop (j + 1))):=by
 unfold dB
 rw [List.set_eq_take_append_cons_drop,if_pos (by rw [List.length_map]; exact h),← cH,← List.map_take,lG,← List.map_drop]
 congr 1
 show e7 _ ++ flat e7 _ = _
 rw [lG]; rfl
theorem x8 {m:List Cl}{j:Nat}{X:AV}(h:j < m.length):flat e7 (dB m j X) = (flat bJ (m.take j) ++ [iv m[j]!.val,bv m[j]!.alive,iv m[j]!.next]) ++ X :: flat bJ (m.drop (j + 1)):=by
 rw [j1 h,List.append_assoc]
theorem B2 {m:List Cl}{j:Nat}{r:List Tg}:flat e7 (dB m j (sl cG r)) = flat bJ (m.set j { m[j]! with stk := r }):=by
 rw [← lG,List.map_set]; rfl
theorem Bb {m:List Cl}{j:Nat}{X:AV}(h:j < m.length):g6 (flat bJ m) (0 + j * 4 + 3) [X] = flat e7 (dB m j X):=by
 rw [← lG]
 have := eR (f := e7) (xs := m.map tD) (k := j) (j := 3) (new := [X]) (y := { tD m[j]! with av := X }) (by rw [List.length_map]; exact h) (by simp) (by
  have e : (m.map tD)[j]! = tD m[j]! := by rw [aZ _ _ (by rw [List.length_map]; exact h),List.getElem_map,aZ _ _ h]
  rw [e]; rfl)
 exact this
theorem vP {m:List Cl}{j:Nat}{X Y:AV}(h:j < m.length):g6 (flat e7 (dB m j X)) (0 + j * 4 + 3) [Y] = flat e7 (dB m j Y):=by
 have e : dB m j Y = (dB m j X).set j { tD m[j]! with av := Y } := by unfold dB;rw [List.set_set]
 rw [e]
 exact eR (by rw [c7]; exact h) (by simp) (by rw [iC h]; rfl)
theorem zV {m:List Cl}{j:Nat}{X:AV}{v:Int}(h:j < m.length):g6 (flat e7 (dB m j X)) (0 + j * 4 + 2) [iv v] = flat e7 (dB (m.set j { m[j]! with next := v }) j X):=by
 have e : dB (m.set j { m[j]! with next := v }) j X = (dB m j X).set j ⟨m[j]!.val, m[j]!.alive, v, X⟩ := by
  have e2 : (m.set j { m[j]! with next := v })[j]! = { m[j]! with next := v } := by rw [aZ _ _ (by rw [List.length_set]; exact h),List.getElem_set_self]
  unfold dB
  rw [e2,List.map_set,List.set_set,List.set_set]; rfl
 rw [e]
 exact eR (by rw [c7]; exact h) (by simp) (by rw [iC h]; rfl)
theorem Le.cls {ts:List (Nat × AV)}{hs:List (Nat × Option (List AV))}{n:Nat}{z0:Lo}{o q j k:Nat}{m:List Cl}{r:List Tg}(hj:aV hs o = some (flat e7 (dB m j (.own q 0 k 2)))) (hq:aV hs q = some (flat cG r)) (hk:k = r.length) (hjm:j < m.length) (hoq:o ≠ q) :
  Le ⟨ts,hs,n,z0⟩ ⟨ts,(o,some (flat bJ (m.set j { m[j]! with stk := r }))) :: (q,none) :: hs,n,z0⟩ := by
 subst hk
 rw [x8 hjm] at hj
 have h := Le.frzC (ts := ts) (n := n) (z0 := z0) _ hj hq hoq
 rw [← B2,x8 hjm]; exact h
theorem A7 {ρ:Nat → Option Nat}{m:List Cl}{j k i i':Nat}(hr:ρ i = some i'):RnL ρ (flat e7 (dB m j (.own i 0 k 2))) (flat e7 (dB m j (.own i' 0 k 2))):=by
 by_cases h : j < m.length
 ·rw [j1 h, j1 h]
  exact RnL.app (RnL.purI inferInstance) (RnL.app (RnL.purI inferInstance) (RnL.cons (RnV.own hr) (RnL.purI inferInstance)))
 ·have e : ∀ X, dB m j X = m.map tD := fun X => List.set_eq_of_length_le (by rw [List.length_map]; omega)
  rw [e,e,lG]
  exact RnL.purI inferInstance
theorem sE {p:Prop}{α:Type}{a c:Option α}{b:α}(h:some b = c) (e:a = some b := by rfl):p ∨ a = c := .inr (e.trans h)
section
variable {P : Program} {N : Nat} {Q : Exit → AS → Prop} {all : Array Oper} {rest : List Oper} {ts : List (Nat × AV)} {hs : List (Nat × Option (List AV))} {n : Nat} {z0 : Lo} {md : Md}
variable {ty : TypeId} {pos : String} {af : Array Edge}
theorem aX {d:Nat}{k:FuncId}{l:List Operand}{tys:Array TypeId}{avs avs0:List AV}{H0:List (Nat × Option (List AV))}{rr rr':AV}{hh:List (Nat × Option (List AV))}
  (mp : List Nat) (n1 : Nat) (ws : List (Nat × Option (List AV))) (h : MC P k avs0 H0 mp.length (fun _ : Unit => True) (fun _ => rr) (fun _ => hh)) [hc : CaT P k] (ha : evL (lk ts) l = some avs) (hd : distinct mp = true)
  (hM : Nat.ble (n + (n1 - mp.length)) a6 = true) (hN : Nat.blt d N = true)
  {md' : Md} [hmd : MdA md (fI l ++ mp.map .inr) (ws.map (fun p => .inr p.1) ++ [.inl d]) md']
  (kk : RW P N all Q md' rest ⟨(d,rr') :: ts,gE hs ws,n + (n1 - mp.length),z0⟩)
  (hH0 : sF hs H0 mp 0 mp := by repeat' (first|exact trivial|(refine And.intro ⟨_,_,rfl,by assumption,?_⟩ ?_)|exact RnL.purI inferInstance|exact A7 rfl|exact RnV.purI inferInstance|exact RnV.own rfl|exact RnV.optr rfl|exact RnL.nil|refine RnL.cons ?_ ?_|refine RnV.agg ?_|refine RnV.tup ?_))
  (hk : gN mp.length H0 = true := by rfl)
  (har : RnL (mp[·]?) avs0 avs := by repeat' (first|exact RnL.purI inferInstance|exact A7 rfl|exact RnV.purI inferInstance|exact RnV.own rfl|exact RnV.optr rfl|exact RnL.nil|refine RnL.cons ?_ ?_|refine RnV.agg ?_|refine RnV.tup ?_))
  (hr : RnV (y4 mp n n1) rr rr' := by repeat' (first|exact RnL.purI inferInstance|exact A7 rfl|exact RnV.purI inferInstance|exact RnV.own rfl|exact RnV.optr rfl|exact RnL.nil|refine RnL.cons ?_ ?_|refine RnV.agg ?_|refine RnV.tup ?_))
  (hwa : vA mp ws = true := by simp [vA])
  (hw : s9 (y4 mp n n1) hh ws := by repeat' (first|exact trivial|(refine And.intro ⟨0,_,rfl,rfl,?_⟩ ?_)|(refine And.intro ⟨1,_,rfl,rfl,?_⟩ ?_)|(refine And.intro ⟨2,_,rfl,rfl,?_⟩ ?_)|(refine And.intro ⟨3,_,rfl,rfl,?_⟩ ?_)|(refine And.intro ⟨4,_,rfl,rfl,?_⟩ ?_)|(refine And.intro ⟨5,_,rfl,rfl,?_⟩ ?_)|(refine And.intro ⟨6,_,rfl,rfl,?_⟩ ?_)|exact RnL.purI inferInstance|exact A7 rfl|exact RnV.purI inferInstance|exact RnV.own rfl|exact RnV.optr rfl|exact RnL.nil|refine RnL.cons ?_ ?_|refine RnV.agg ?_|refine RnV.tup ?_)) :
  RW P N all Q md (⟨some d,.call ⟨.value (.func k),l.toArray,tys⟩,ty,pos,af,none⟩ :: rest) ⟨ts,hs,n,z0⟩ :=
 HC mp n1 ws h (avs := avs) ha hd hH0 hk har hM hr hwa hw hN (md' := md') (hmd := hmd) kk
end
theorem aE {G K:Prop}(k:K) (h:Hy K → G := by first|(intro k;(first|refine Jk ?_ | refine SH ?_);exact k.pf) | fail):G := h ⟨k⟩
end Go.AL
