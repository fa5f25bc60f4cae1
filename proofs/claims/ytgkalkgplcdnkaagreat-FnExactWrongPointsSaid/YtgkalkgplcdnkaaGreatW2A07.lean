/-
 A part of the proofs over this program: rules and contracts of its functions (the rules).
-/
import Derived.Test.YtgkalkgplcdnkaaGreatW2A06
import Derived.Lib.SlicesCompact
import Derived.Shelf.Sort.Plain
import Derived.Ground.Names2Prog
import Derived.Shelf.Slices.CompactI
import Derived.Shelf.Slices.In.SortNone
import Derived.Test.YtgkalkgplcdnkaaGreatProg
set_option linter.unusedVariables false
set_option linter.unusedSimpArgs false
namespace Go.AL
open Go.RowKit
theorem xK {P:Program}{k:FuncId}{fn:Func}{c:Code}{avs:List AV}{E0 E0':dU}{k1:Int}(hf:P.funcs[k]? = some fn) (hb:fn.body = some c) (hN:avs.length ≤ fn.ntmps)
  (h : dE P fn.ntmps c (fun x s E => (x = .ret ∨ x = .normal) ∧ kC P (lk s.ts) (aO s.hs) fn.results.toList = some [iv k1] ∧ E = E0') E0 ⟨dY 0 avs,[],0,⟨0,cW⟩⟩) (hfr : iW avs = true) : I4 P k avs E0 E0' k1 := by
 intro w vals hv0 x8
 refine calls_of_wp hf hb ?_
 let C : Ctx := { N := fn.ntmps,w0 := w,W0 := fun q => q ∈ bl E0,X := fun _ => False,ι0 := fun _ => none,xlt := fun _ q => q.elim }
 have hX : ∀ q,C.X q ∨ q ∈ bl E0 → q < w.heap.size := fun q hq => hq.elim (fun q => q.elim) (x8.lt q)
 have hlen := RdV.length hv0
 have hv : RdV w (aH (iU C w E0 hX).X (fun _ => none) (aO [])) (fun _ => none) avs vals := RdV.freeV _ _ hfr hv0
 have gh : HG (iU C w E0 hX) (fun _ => none) (Fn 0 ⟨0, cW⟩) (aO []) w :=
  ⟨fun id cs h => by simp [aO] at h,fun id id' cs cs' b β β' h => by simp [aO] at h,Fr.refl _ _,fun _ _ h => h,fun _ _ => rfl⟩
 have gt : TG (iU C w E0 hX) (fun _ => none) (lk (dY 0 avs)) (aO []) { tmps := vals.toArray ++ Array.replicate (fn.ntmps - vals.toArray.size) undef, defers := [] } w := by
  refine ⟨rfl,by simp [iU,C,hlen]; omega,fun t av ht => ?_⟩
  obtain ⟨y,_,h1,h2⟩ := iY hv ht
  refine ⟨y,?_,h2⟩
  have hlt : t < vals.length := by
   rcases Nat.lt_or_ge t vals.length with q|q
   ·exact q
   ·rw [List.getElem?_eq_none (by simpa using q)] at h1;cases h1
  rw [Array.getElem?_append_left (by simpa using hlt)]
  simpa using h1
 have gT : GsT C ⟨dY 0 avs, [], 0, ⟨0, cW⟩⟩ E0 { tmps := vals.toArray ++ Array.replicate (fn.ntmps - vals.toArray.size) undef, defers := [] } w :=
  ⟨w,hX,Fr.refl _ _,fun q hq => .inr hq,fun _ _ q => q,x8,fun id hid => .inr rfl,fun _ => none,gt,gh⟩
 refine wp_mono (h C _ w rfl gT) ?_
 rintro x a' w' ⟨s1,E',⟨he,hres,rfl⟩,gT'⟩
 have hT' := gT'.tree
 have gD := gT'.drop
 have hfr : Fr (fun q => q ∈ bl E0) w w' := by obtain ⟨_,_,_,gh'⟩ := gD;exact gh'.fr
 obtain ⟨wb,hX',f,p1,p2,p3,h0',ι,g1,g2⟩ := gT'
 obtain ⟨ys,q1,q2⟩ := lT (P := P) g1 g2 hres
 have hys : ys = [.int .i64 k1] := by
  simp only [RdV,Rd] at q2
  obtain ⟨_,_,rfl,rfl,rfl⟩ := q2
  rfl
 subst hys
 have hres' : (results fn a'.tmps).run P w' = .ok (.int .i64 k1) w' := by
  have hr1 : results fn a'.tmps = (do let vs ← fn.results.mapM (rS a'); pure (if h : vs.size = 1 then vs[0] else .tuple vs)) := by
   unfold results
   congr 1
  rw [hr1,Array.mapM_eq_mapM_toList,Sem.run_bind,Sem.run_map,q1]
  simp only [Result.andThen_ok,Sem.run_pure]
  rfl
 rcases he with rfl|rfl
 ·exact ⟨g1.df,_,hres',rfl,hfr,hT'⟩
 ·exact ⟨g1.df,_,hres',rfl,hfr,hT'⟩
def rJ (k : Int) (n : Nat) : List Int := (List.range n).map fun (i : Nat) => k + (i : Int)
theorem lK (k:Int) (n:Nat):(rJ k n).length = n := by simp [rJ]
theorem Cc (k:Int) (n:Nat):rJ k (n + 1) = rJ k n ++ [k + (n:Int)] := by simp [rJ,List.range_succ]
mutual
def E4 : Int → Stmt → Stmt
 | k,.mk _ _ _ _ th el => .mk k (k + 1) (k + 2) (k + 3) (mL (k + 4) th) (mL (k + 4 + 4 * (aJ th : Nat)) el)
def mL : Int → List Stmt → List Stmt
 | _,[] => []
 | k,s :: l => E4 k s :: mL (k + 4 * (cM s : Nat)) l
end
theorem zD (k:Int) (s:Stmt):E4 k s = .mk k (k + 1) (k + 2) (k + 3) (mL (k + 4) s.th) (mL (k + 4 + 4 * (aJ s.th:Nat)) s.el):=by
 cases s;simp only [E4]; rfl
theorem vO:∀ (l:List Stmt) (s:Stmt) (k:Int),mL k (l ++ [s]) = mL k l ++ [E4 (k + 4 * (aJ l:Nat)) s]
 | [],s,k => by simp [mL,aJ]
 | a :: l, s, k => by
  have := vO l s (k + 4 * (cM a : Nat))
  simp only [List.cons_append,mL,aJ,this]
  rw [show k + 4 * ((cM a : Nat) : Int) + 4 * ((aJ l : Nat) : Int) = k + 4 * ((cM a + aJ l : Nat) : Int) by omega]
theorem oK {l:List Stmt}{k:Nat}(hk:k < l.length):aJ (l.take (k + 1)) = aJ (l.take k) + cM l[k]!:=by
 have e : l.take (k + 1) = l.take k ++ [l[k]!] := by rw [aW _ _ hk,List.take_succ_eq_append_getElem hk]
 rw [e,jD]; simp [aJ]
theorem pX {l:List Stmt}{j:Nat}(hj:j < l.length) (k:Int):mL k (l.take (j + 1)) = mL k (l.take j) ++ [E4 (k + 4 * (aJ (l.take j):Nat)) l[j]!]:=by
 have e : l.take (j + 1) = l.take j ++ [l[j]!] := by rw [aW _ _ hj,List.take_succ_eq_append_getElem hj]
 rw [e,vO]
open Go.Lib
theorem zU:∀ {a b:List Int},a.Pairwise (· < ·) → b.Pairwise (· < ·) → (∀ x,x ∈ a ↔ x ∈ b) → a = b
 | [],[],_,_,_ => rfl
 | [],y :: b,_,_,h => by have := (h y).2 (by simp);cases this
 | x :: a,[],_,_,h => by have := (h x).1 (by simp);cases this
 | x :: a, y :: b, ha, hb, h => by
  rw [List.pairwise_cons] at ha hb
  have exy : x = y := by
   have h1 := (h x).1 (by simp)
   have h2 := (h y).2 (by simp)
   rcases List.mem_cons.1 h1 with e|e
   ·exact e
   ·rcases List.mem_cons.1 h2 with e' | e'
    ·exact e'.symm
    ·have q1 := hb.1 x e
     have q2 := ha.1 y e'
     omega
  subst exy
  rw [zU ha.2 hb.2 fun z => ?_]
  constructor
  ·intro hz
   have q := ha.1 z hz
   rcases List.mem_cons.1 ((h z).1 (List.mem_cons_of_mem _ hz)) with e|e
   ·omega
   ·exact e
  ·intro hz
   have q := hb.1 z hz
   rcases List.mem_cons.1 ((h z).2 (List.mem_cons_of_mem _ hz)) with e|e
   ·omega
   ·exact e
theorem jX (zs:List Int) (j:Nat):zs.toArray[j]! = zs[j]! := by simp
theorem qD (zs:List Int) (j:Nat):keeps zs.toArray j = true ↔ j = 0 ∨ zs[j]! ≠ zs[j - 1]!:=by
 unfold keeps
 rw [jX,jX]; simp
theorem tZ (zs:List Int) (x:Int):x ∈ compact zs ↔ x ∈ zs:=by
 unfold compact compactUpTo
 rw [List.mem_map]
 constructor
 ·rintro ⟨j, hj, rfl⟩
  have hj' := List.mem_range.1 (List.mem_filter.1 hj).1
  rw [jX]; exact aY _ _ hj'
 ·intro hx
  obtain ⟨i,hi,e⟩ := List.getElem_of_mem hx
  have key : ∀ n i, i ≤ n → i < zs.length → zs[i]! = x → ∃ j, j < zs.length ∧ zs[j]! = x ∧ (j = 0 ∨ zs[j]! ≠ zs[j - 1]!) := by
   intro n
   induction n with
   | zero => intro i h1 h2 h3;exact ⟨i,h2,h3,.inl (by omega)⟩
   | succ n ih =>
    intro i h1 h2 h3
    by_cases q : i = 0 ∨ zs[i]! ≠ zs[i - 1]!
    ·exact ⟨i,h2,h3,q⟩
    ·have q1 : i ≠ 0 := fun e => q (.inl e)
     have q2 : zs[i]! = zs[i - 1]! := Classical.byContradiction fun e => q (.inr e)
     exact ih (i - 1) (by omega) (by omega) (by rw [← q2]; exact h3)
  obtain ⟨j,h1,h2,h3⟩ := key i i (Nat.le_refl _) hi (by rw [aW _ _ hi]; exact e)
  exact ⟨j,List.mem_filter.2 ⟨List.mem_range.2 h1,(qD zs j).2 h3⟩,by rw [jX]; exact h2⟩
theorem uG (zs:List Int) (h:zs.Pairwise (· ≤ ·)):(compact zs).Pairwise (· < ·):=by
 have hle : ∀ i j, i ≤ j → j < zs.length → zs[i]! ≤ zs[j]! := fun i j h1 h2 => by
  by_cases e : i = j
  ·rw [e]; exact Int.le_refl _
  ·rw [aW _ _ h2, aW _ _ (by omega)]
   exact (List.pairwise_iff_getElem.1 h) i j (by omega) h2 (by omega)
 unfold compact compactUpTo
 rw [List.pairwise_map,List.pairwise_filter]
 refine List.Pairwise.imp_of_mem ?_ (List.pairwise_lt_range (n := zs.length))
 intro i j hi hj hij k1 k2
 have hj' := List.mem_range.1 hj
 rw [jX,jX]
 rcases (qD zs j).1 k2 with e|e
 ·omega
 ·have h1 := hle i (j - 1) (by omega) (by omega)
  have h2 := hle (j - 1) j (by omega) hj'
  omega
theorem dL (zs:List Int):(compact zs).length ≤ zs.length:=by
 unfold compact compactUpTo;rw [List.length_map]; exact Nat.le_trans (List.length_filter_le _ _) (by rw [List.length_range]; exact Nat.le_refl _)
def pS (B : Nat → Bool) (A : Nat → Int) (k : Nat) : List Int := ((List.range k).filter B).map A
theorem yY {B:Nat → Bool}{A:Nat → Int}{k:Nat}(h:B k = true):pS B A (k + 1) = pS B A k ++ [A k]:=by
 unfold pS;rw [List.range_succ,List.filter_append,List.map_append,List.filter_cons_of_pos h]; rfl
theorem vW {B:Nat → Bool}{A:Nat → Int}{k:Nat}(h:B k = false):pS B A (k + 1) = pS B A k:=by
 unfold pS;rw [List.range_succ,List.filter_append,List.map_append,List.filter_cons_of_neg (by rw [h]; decide)]; simp
theorem zZ {B:Nat → Bool}{A:Nat → Int}{k:Nat}:(pS B A k).length ≤ k:=by
 unfold pS;rw [List.length_map]; exact Nat.le_trans (List.length_filter_le _ _) (by rw [List.length_range]; exact Nat.le_refl _)
theorem FM {B:Nat → Bool}{A:Nat → Int}{k:Nat}{x:Int}:x ∈ pS B A k ↔ ∃ j,j < k ∧ B j = true ∧ A j = x:=by
 unfold pS
 rw [List.mem_map]
 constructor
 ·rintro ⟨j, h1, h2⟩
  obtain ⟨h3,h4⟩ := List.mem_filter.1 h1
  exact ⟨j,List.mem_range.1 h3,h4,h2⟩
 ·rintro ⟨j, h1, h2, h3⟩
  exact ⟨j,List.mem_filter.2 ⟨List.mem_range.2 h1,h2⟩,h3⟩
def BL (N : Nat) (L : List Int) : List Bool := (List.range N).map fun (i : Nat) => decide ((i : Int) ∈ L)
theorem k9 (N:Nat) (L:List Int):(BL N L).length = N := by simp [BL]
theorem nM {N:Nat}{L:List Int}{i:Nat}(h:i < N):(BL N L)[i]! = decide ((i:Int) ∈ L):=by
 unfold BL;rw [aW _ _ (by simpa using h),List.getElem_map,List.getElem_range]
theorem Fx {N:Nat}{L:List Int}{a:Nat}(h:a < N):(BL N L).set a true = BL N (L ++ [(a:Int)]):=by
 apply nB
 ·rw [List.length_set,k9,k9]
 ·intro i hi
  rw [List.length_set,k9] at hi
  rw [bR,k9,nM hi,nM hi]
  by_cases e : a = i
  ·rw [if_pos ⟨e,hi⟩,e]; exact (decide_eq_true (by simp)).symm
  ·rw [if_neg (fun q => e q.1), decide_eq_decide]
   simp only [List.mem_append,List.mem_singleton]
   constructor
   ·exact .inl
   ·rintro (q | q)
    ·exact q
    ·omega
theorem ER (N:Nat):BL N [] = List.replicate N false:=by
 unfold BL;simp only [List.not_mem_nil,decide_false]; rw [List.map_const',List.length_range]
def gV (L : List Int) : List Int := L.mergeSort fun x y => decide (x ≤ y)
theorem eJ (L:List Int):(gV L).length = L.length := List.length_mergeSort _
theorem Fi (L:List Int) (x:Int):x ∈ gV L ↔ x ∈ L := List.mem_mergeSort
theorem HP (L:List Int):(gV L).Pairwise (· ≤ ·):=by
 have h := List.pairwise_mergeSort (le := fun x y : Int => decide (x ≤ y)) (fun a b c h1 h2 => by simp only [decide_eq_true_eq] at *; omega) (fun a b => by simp only [Bool.or_eq_true,decide_eq_true_eq]; omega) L
 exact h.imp (fun h => by simpa using h)
theorem AB {N:Nat}{L:List Int}(h:∀ x ∈ L,0 ≤ x ∧ x < (N:Int)):D5 (BL N L) N = compact (gV L):=by
 refine zU ?_ (uG _ (HP L)) fun x => ?_
 ·unfold D5
  rw [List.pairwise_map,List.pairwise_filter]
  exact (List.pairwise_lt_range (n := N)).imp fun h _ _ => by omega
 ·rw [tZ, Fi]
  unfold D5
  rw [List.mem_map]
  constructor
  ·rintro ⟨i, hi, rfl⟩
   obtain ⟨h1,h2⟩ := List.mem_filter.1 hi
   rw [nM (List.mem_range.1 h1)] at h2
   simpa using h2
  ·intro hx
   have hb := h x hx
   refine ⟨x.toNat,List.mem_filter.2 ⟨List.mem_range.2 (by omega),?_⟩,by omega⟩
   rw [nM (by omega),show ((x.toNat : Nat) : Int) = x by omega]
   exact decide_eq_true hx
end Go.AL
namespace Go.Proofs
open Go.Shelf
def Tryz.lays189_ren : Go.Shelf.Ren := ⟨fun | 189 => 36 | 125 => 82 | 257 => 81 | 128 => 132 | 129 => 133 | 294 => 123 | 295 => 124 | 296 => 125 | 297 => 126 | 298 => 127 | 299 => 128 | 216 => 129 | 300 => 130 | 301 => 131 | 328 => 164 | 329 => 165 | 330 => 166 | 331 => 167 | 332 => 168 | 215 => 169 | 343 => 208 | n => n,fun | 28 => 22 | 3 => 3 | 46 => 111 | 0 => 0 | 51 => 166 | 53 => 140 | 4 => 4 | 183 => 159 | 182 => 158 | 131 => 85 | 5 => 5 | 9 => 9 | 218 => 195 | 222 => 118 | 228 => 230 | 229 => 104 | n => n,fun | n => n⟩
theorem Tryz.lays189:Go.Proofs.Lays.n189 Tryz.prog Tryz.lays189_ren := {
 mixed := by kernel_rfl
 f125 := Tryz.func82.trans (congrArg some (by kernel_rfl))
 f128 := Tryz.func132.trans (congrArg some (by kernel_rfl))
 f129 := Tryz.func133.trans (congrArg some (by kernel_rfl))
 f189 := Tryz.func36.trans (congrArg some (by kernel_rfl))
 f215 := Tryz.func169.trans (congrArg some (by kernel_rfl))
 f216 := Tryz.func129.trans (congrArg some (by kernel_rfl))
 f257 := Tryz.func81.trans (congrArg some (by kernel_rfl))
 f294 := Tryz.func123.trans (congrArg some (by kernel_rfl))
 f295 := Tryz.func124.trans (congrArg some (by kernel_rfl))
 f296 := Tryz.func125.trans (congrArg some (by kernel_rfl))
 f297 := Tryz.func126.trans (congrArg some (by kernel_rfl))
 f298 := Tryz.func127.trans (congrArg some (by kernel_rfl))
 f299 := Tryz.func128.trans (congrArg some (by kernel_rfl))
 f300 := Tryz.func130.trans (congrArg some (by kernel_rfl))
 f301 := Tryz.func131.trans (congrArg some (by kernel_rfl))
 f328 := Tryz.func164.trans (congrArg some (by kernel_rfl))
 f329 := Tryz.func165.trans (congrArg some (by kernel_rfl))
 f330 := Tryz.func166.trans (congrArg some (by kernel_rfl))
 f331 := Tryz.func167.trans (congrArg some (by kernel_rfl))
 f332 := Tryz.func168.trans (congrArg some (by kernel_rfl))
 f343 := Tryz.func208.trans (congrArg some (by kernel_rfl))
 t0 := Tryz.underlying0
 a0 := Tryz.isAgg0
 z0 := Tryz.sizeOf0
 v0 := Tryz.zeroValue0
 t3 := Tryz.underlying3
 a3 := Tryz.isAgg3
 z3 := Tryz.sizeOf3
 v3 := Tryz.zeroValue3
 t4 := Tryz.underlying4
 a4 := Tryz.isAgg4
 z4 := Tryz.sizeOf4
 v4 := Tryz.zeroValue4
 t5 := Tryz.underlying5
 a5 := Tryz.isAgg5
 z5 := Tryz.sizeOf5
 v5 := Tryz.zeroValue5
 t9 := Tryz.underlying9
 a9 := Tryz.isAgg9
 z9 := Tryz.sizeOf9
 v9 := Tryz.zeroValue9
 t28 := Tryz.underlying22
 a28 := Tryz.isAgg22
 z28 := Tryz.sizeOf22
 v28 := Tryz.zeroValue22
 t46 := Tryz.underlying111
 a46 := Tryz.isAgg111
 z46 := Tryz.sizeOf111
 v46 := Tryz.zeroValue111
 t51 := Tryz.underlying166
 a51 := Tryz.isAgg166
 z51 := Tryz.sizeOf166
 v51 := Tryz.zeroValue166
 t53 := Tryz.underlying140
 a53 := Tryz.isAgg140
 z53 := Tryz.sizeOf140
 v53 := Tryz.zeroValue140
 t131 := Tryz.underlying85
 a131 := Tryz.isAgg85
 z131 := Tryz.sizeOf85
 v131 := Tryz.zeroValue85
 t182 := Tryz.underlying158
 a182 := Tryz.isAgg158
 z182 := Tryz.sizeOf158
 v182 := Tryz.zeroValue158
 t183 := Tryz.underlying159
 a183 := Tryz.isAgg159
 z183 := Tryz.sizeOf159
 v183 := Tryz.zeroValue159
 t218 := Tryz.underlying195
 a218 := Tryz.isAgg195
 z218 := Tryz.sizeOf195
 v218 := Tryz.zeroValue195
 t222 := Tryz.underlying118
 a222 := Tryz.isAgg118
 z222 := Tryz.sizeOf118
 v222 := Tryz.zeroValue118
 t228 := Tryz.underlying230
 a228 := Tryz.isAgg230
 z228 := Tryz.sizeOf230
 v228 := Tryz.zeroValue230
 t229 := Tryz.underlying104
 a229 := Tryz.isAgg104
 z229 := Tryz.sizeOf104
 v229 := Tryz.zeroValue104 }
open Go.Sort Go.RowKit in
theorem Tryz.slices_Sort_int (blk off cap:Nat) (zs:List Int) (w:World) (hH:Holds (Value.int .i64) w blk off zs.toArray) (hblk:blk < w.heap.size) (hsz:zs.length < 4611686018427387904) :
  Calls Tryz.prog 36 #[.slice (some ⟨blk, off, none⟩) zs.length cap] w fun e w' =>
   e = .returned (.tuple #[]) ∧ ∃ n os,w' = grow (putRow (Value.int .i64) (Sort.ahead w n) blk off (zs.mergeSort fun x y => decide (x ≤ y)).toArray) os := Any.slices_Sort_int Tryz.lays189 blk off cap zs w hH hblk hsz
def Tryz.laysNm220_ren : Go.Shelf.Ren := ⟨fun | 20 => 37 | n => n,fun | 22 => 22 | 3 => 3 | 4 => 4 | 0 => 0 | n => n,fun | n => n⟩
theorem Tryz.laysNm220:Go.Proofs.Lays2.n20 Tryz.prog Tryz.laysNm220_ren := {
 mixed := by kernel_rfl
 f20 := Tryz.func37.trans (congrArg some (by kernel_rfl))
 t0 := Tryz.underlying0
 a0 := Tryz.isAgg0
 z0 := Tryz.sizeOf0
 v0 := Tryz.zeroValue0
 t3 := Tryz.underlying3
 a3 := Tryz.isAgg3
 z3 := Tryz.sizeOf3
 v3 := Tryz.zeroValue3
 t4 := Tryz.underlying4
 a4 := Tryz.isAgg4
 z4 := Tryz.sizeOf4
 v4 := Tryz.zeroValue4
 t22 := Tryz.underlying22
 a22 := Tryz.isAgg22
 z22 := Tryz.sizeOf22
 v22 := Tryz.zeroValue22
 i3 := by kernel_rfl }
open Go.RowKit Go.Lib Go.Sort in
open Go.RowKit Go.Lib Go.Sort in
theorem Tryz.slices_Compact_int (blk off cap:Nat) (zs:List Int) (w:World) (hH:Holds (Value.int .i64) w blk off zs.toArray) (hsz:zs.length ≤ 9223372036854775807) (hcap:zs.length ≤ cap) :
  Calls Tryz.prog 37 #[.slice (some ⟨blk,off,none⟩) zs.length cap] w fun e w' => e = .returned (.slice (some ⟨blk,off,none⟩) (Lib.compact zs).length cap) ∧ ∃ q,w' = putRow (Value.int .i64) (Sort.ahead w q) blk off (Lib.compact zs ++ List.replicate (zs.length - (Lib.compact zs).length) 0).toArray := Any.slices_Compact_int Tryz.laysNm220 blk off cap zs w hH hsz hcap
open Go.RowKit Go.Lib Go.Sort in
theorem Tryz.slices_Compact_int_empty (a:Option Addr) (cap:Nat) (w:World) :
  Calls Tryz.prog 37 #[.slice a 0 cap] w fun e w' => e = .returned (.slice a 0 cap) ∧ w' = w := Any.slices_Compact_int_empty Tryz.laysNm220 a cap w
open Go.RowKit Go.Sort in
theorem Tryz.slices_Sort_int_none (p:Option Addr) (cap:Nat) (w:World) :
  Calls Tryz.prog 36 #[.slice p 0 cap] w fun e w' => e = .returned (.tuple #[]) ∧ w' = w := Any.slices_Sort_int_none Tryz.lays189 p cap w
end Go.Proofs
