/-
 A part of the proofs over this program: rules and contracts of its functions (the rules).
-/
import Derived.Test.YtjnhlgpbojggnaaGreatDoorS3A01
set_option linter.unusedVariables false
set_option linter.unusedSimpArgs false
namespace Go.AL
open Go.RowKit
def Ef (P : Program) (C : Ctx) (ι : Pl) (F' : Nat → Prop) (H : Nat → Option (List AV)) (a : Act) (w : World) (o : Oper) (out : AV) (H' : Nat → Option (List AV)) : Prop :=
 ∃ n y ι' w', (execOp a.eval o).run P w = .ok n w' ∧ ((n = .value y ∧ Rd w' (badOf C.X ι' H') ι' out y) ∨ (n = .skip ∧ y = undef ∧ out = .v undef)) ∧
  HG C ι' F' H' w' ∧ Carry w (badOf C.X ι H) ι w' (badOf C.X ι' H') ι'
section
variable {P : Program} {C : Ctx} {ι : Pl} {T : Nat → Option AV} {F : Nat → Prop} {H : Nat → Option (List AV)} {a : Act} {w : World} {o : Oper}
theorem zrOf_i {t:TypeId}{zs:List Value}(h:zrOf P t = some zs):∃ i z,P.info? t = some i ∧ i.zero = some z ∧ z.cells.toList = zs ∧ zs.all (·.oneCell') = true:=by
 unfold zrOf at h
 cases hi : P.info? t with
 | none => simp [hi] at h
 | some i =>
  cases hz : i.zero with
  | none => simp [hi,hz] at h
  | some z =>
   simp only [hi,Option.bind_some,hz] at h
   split at h
   ·cases h;rename_i h;exact ⟨i,z,rfl,hz,rfl,h⟩
   ·cases h
theorem szOf_i {t:TypeId}{n:Nat}{i:TypeInfo}(h:szOf P t = some n) (hi:P.info? t = some i):i.size = n := by simpa [szOf,hi] using h
theorem byOf_i {t:TypeId}{n:Nat}{i:TypeInfo}(h:byOf P t = some n) (hi:P.info? t = some i):i.bytes = n := by simpa [byOf,hi] using h
theorem ef_alloc (gh:HG C ι F H w){t:TypeId}{id:Nat}{zs:List Value}(ho:o.op = .alloc t) (hz:zrOf P t = some zs) (hf:F id) :
  Ef P C ι (fun j => F j ∧ j ≠ id) H a w o (.optr id 0) (upd H id (some (zs.map .v))) := by
 obtain ⟨i,z,h1,h2,h3,h4⟩ := zrOf_i hz
 obtain ⟨g1,g2⟩ := gh.alloc (id := id) hf (arr := z.cells) t (cs := zs.map .v) (l := zs) (rest := []) (by simp [h3]) (RdL_v h4)
 refine ⟨_,.pointer (some ⟨w.heap.size,0,none⟩),_,_,?_,.inl ⟨rfl,?_⟩,g1,g2⟩
 ·simp [execOp,ho,Instr.alloc,zeroValue,typeInfo,h1,h2,newVar,newRow]
 ·simp only [Rd]; exact ⟨w.heap.size,0,by simp,rfl⟩
def oneAV : AV → Bool
 | .v x => x.oneCell'
 | .agg _ | .tup _ => false
 | _ => true
theorem oneAV_ok {w:World}{bad:Nat → Prop}{ι:Pl}{av:AV}{y:Value}(h:Rd w bad ι av y) (h1:oneAV av = true):y.oneCell' = true:=by
 cases av <;> simp only [oneAV] at h1 <;> simp only [Rd] at h <;> first|(cases h1;done)|skip
 ·subst h;exact h1
 ·exact h
 ·obtain ⟨_,_,rfl,_⟩ := h;rfl
 ·obtain ⟨_,_,rfl,_⟩ := h;rfl
 ·rcases h with ⟨_,_,_,rfl⟩ | ⟨_,_,_,_,rfl,_⟩ <;> rfl
 ·obtain ⟨_,_,_,rfl⟩ := h;rfl
 ·obtain ⟨_,_,rfl,_⟩ := h;rfl
 ·obtain ⟨_,_,_,_,rfl,_⟩ := h;rfl
def cellsOf : AV → Option (List AV)
 | .agg cs => some cs
 | av => if oneAV av then some [av] else none
theorem cells_one {y:Value}(h:y.oneCell' = true):y.cells = #[y] := by cases y <;> first|rfl | cases h
theorem cellsOf_ok {w:World}{bad:Nat → Prop}{ι:Pl}{av:AV}{y:Value}{cs:List AV}(h:Rd w bad ι av y) (hc:cellsOf av = some cs):RdL w bad ι cs y.cells.toList:=by
 by_cases hag : ∃ l,av = .agg l
 ·obtain ⟨l, rfl⟩ := hag
  simp only [cellsOf,Option.some.injEq] at hc
  subst hc
  simp only [Rd] at h
  obtain ⟨l',rfl,h⟩ := h
  simpa [Value.cells] using h
 ·have : cellsOf av = if oneAV av then some [av] else none := by
   cases av <;> first|rfl|(exact absurd ⟨_,rfl⟩ hag)
  rw [this] at hc
  split at hc
  ·cases hc
   rename_i h1
   have h2 := oneAV_ok h h1
   rw [cells_one h2]
   simp only [RdL]
   exact ⟨y,[],rfl,h2,h,rfl⟩
  ·cases hc
theorem ef_box (g:TG C ι T H a w) (gh:HG C ι F H w){t:TypeId}{x:Operand}{id:Nat}{av:AV}{cs:List AV}(ho:o.op = .box t x) (hx:ev T x = some av) (hc:cellsOf av = some cs) (hf:F id) :
  Ef P C ι (fun j => F j ∧ j ≠ id) H a w o (.optr id 0) (upd H id (some cs)) := by
 obtain ⟨g1,g2⟩ := gh.alloc (id := id) hf (arr := (a.eval x).cells) t (cs := cs) (l := (a.eval x).cells.toList) (rest := []) (by simp) (cellsOf_ok (ev_ok g hx) hc)
 refine ⟨_,.pointer (some ⟨w.heap.size,0,none⟩),_,_,?_,.inl ⟨rfl,?_⟩,g1,g2⟩
 ·simp [execOp,ho,Instr.box,newVar,newRow]
 ·simp only [Rd]; exact ⟨w.heap.size,0,by simp,rfl⟩
def spl (cs : List AV) (off : Nat) (new : List AV) : List AV := cs.take off ++ new ++ cs.drop (off + new.length)
def fillA (place : Nat → Option (Nat × Nat)) (cs : List AV) : List (Nat × AV) → Option (List AV)
 | [] => some cs
 | (i, av) :: rest =>
  match place i,cellsOf av with
  | some (off,size),some new => if new.length = size ∧ off + size ≤ cs.length then fillA place (spl cs off new) rest else none
  | _,_ => none
theorem setFold (vs:List Value):∀ (k off:Nat) (pre mid post:List Value) (cs:Array Value),cs.toList = pre ++ mid ++ post → pre.length = off + k → mid.length = vs.length →
  ((vs.zipIdx k).foldl (fun (cs : Array Value) p => cs.setIfInBounds (off + p.2) p.1) cs).toList = pre ++ vs ++ post := by
 induction vs with
 | nil =>
  intro k off pre mid post cs h _ hm
  have : mid = [] := List.eq_nil_of_length_eq_zero (by simpa using hm)
  subst this
  simpa using h
 | cons v vs ih =>
  intro k off pre mid post cs h hp hm
  match mid,hm with
  | m :: mid, hm =>
   simp only [List.zipIdx_cons,List.foldl_cons]
   rw [ih (k + 1) off (pre ++ [v]) mid post _ ?_ (by simp;omega) (by simpa using hm)]
   ·simp
   ·rw [Array.toList_setIfInBounds, h, List.append_assoc, List.set_append_right _ _ (by omega), hp, Nat.sub_self]
    simp
theorem setFold' (vs:List Value) (off:Nat) (cs:Array Value) (h:off + vs.length ≤ cs.size) :
  ((vs.zipIdx 0).foldl (fun (cs : Array Value) p => cs.setIfInBounds (off + p.2) p.1) cs).toList = cs.toList.take off ++ vs ++ cs.toList.drop (off + vs.length) := by
 refine setFold vs 0 off (cs.toList.take off) ((cs.toList.drop off).take vs.length) (cs.toList.drop (off + vs.length)) cs ?_ (by simp;omega) (by simp;omega)
 rw [← List.drop_drop,List.append_assoc,List.take_append_drop,List.take_append_drop]
theorem RdL_spl {w:World}{bad:Nat → Prop}{ι:Pl}{cs new:List AV}{l l':List Value}(off:Nat) (h:RdL w bad ι cs l) (h':RdL w bad ι new l') :
  RdL w bad ι (spl cs off new) (l.take off ++ l' ++ l.drop (off + l'.length)) := by
 unfold spl
 rw [RdL.length h']
 exact RdL.append (RdL.append (RdL_take _ h) h') (RdL_drop _ h)
theorem fill_ok {w:World}{bad:Nat → Prop}{ι:Pl}{place:Nat → Option (Nat × Nat)}:∀ {ps:List (Nat × AV)}{qs:List (Nat × Value)}{cs cs':List AV}{arr:Array Value},
  RdL w bad ι cs arr.toList → ps.length = qs.length → (∀ (j i : Nat) av y i',ps[j]? = some (i,av) → qs[j]? = some (i',y) → i = i' ∧ Rd w bad ι av y) → fillA place cs ps = some cs' →
  ∃ arr',Instr.fill place arr qs = some arr' ∧ RdL w bad ι cs' arr'.toList
 | [], qs, cs, cs', arr, h, hl, _, hf => by
  have : qs = [] := List.eq_nil_of_length_eq_zero (by simpa using hl.symm)
  subst this
  simp only [fillA,Option.some.injEq] at hf
  subst hf
  exact ⟨arr,rfl,h⟩
 | (i,av) :: ps,[],cs,cs',arr,_,hl,_,_ => by simp at hl
 | (i, av) :: ps, (i', y) :: qs, cs, cs', arr, h, hl, hr, hf => by
  obtain ⟨rfl,hy⟩ := hr 0 i av y i' (by simp) (by simp)
  simp only [fillA] at hf
  split at hf
  ·rename_i off size new hp hc
   split at hf
   ·rename_i hcond
    have h1 := cellsOf_ok hy hc
    have h2 := RdL.length h1
    have h3 := RdL.length h
    simp only [Array.length_toList] at h2 h3
    have hset := setFold' y.cells.toList off arr (by simp;omega)
    have hsp := RdL_spl off h h1
    rw [← hset] at hsp
    obtain ⟨arr',h4,h5⟩ := fill_ok (place := place) (ps := ps) (qs := qs) hsp (by simpa using hl) (fun j i av y i' h6 h7 => hr (j + 1) i av y i' (by simpa using h6) (by simpa using h7)) hf
    refine ⟨arr',?_,h5⟩
    simp only [Instr.fill,hp]
    rw [if_neg (by simp;omega)]
    rw [← h4]
    congr 1
    rw [← Array.foldl_toList]
    simp [Array.toList_zipIdx]
   ·cases hf
  ·cases hf
def evs (T : Nat → Option AV) : List (Nat × Operand) → Option (List (Nat × AV))
 | [] => some []
 | (i,x) :: ps => match ev T x,evs T ps with|some av,some l => some ((i,av) :: l) | _,_ => none
theorem evs_ok (g:TG C ι T H a w):∀ {ps:List (Nat × Operand)}{l:List (Nat × AV)},evs T ps = some l →
  l.length = (ps.map fun (p : Nat × Operand) => (p.1,a.eval p.2)).length ∧
  ∀ (j i : Nat) av y i',l[j]? = some (i,av) → (ps.map fun (p : Nat × Operand) => (p.1,a.eval p.2))[j]? = some (i',y) → i = i' ∧ Rd w (badOf C.X ι H) ι av y
 | [],l,h => by simp only [evs,Option.some.injEq] at h;subst h;simp
 | (i, x) :: ps, l, h => by
  simp only [evs] at h
  split at h
  ·rename_i av l' h1 h2
   cases h
   obtain ⟨h3,h4⟩ := evs_ok g h2
   refine ⟨by simpa using h3,fun j i2 av2 y2 i3 h5 h6 => ?_⟩
   cases j with
   | zero =>
    simp at h5 h6
    obtain ⟨rfl,rfl⟩ := h5
    obtain ⟨rfl,rfl⟩ := h6
    exact ⟨rfl,ev_ok g h1⟩
   | succ j => exact h4 j i2 av2 y2 i3 (by simpa using h5) (by simpa using h6)
  ·cases h
def plOf (P : Program) (t : TypeId) : Option (List (Nat × Nat)) := match P.underlying t with
 | some (.struct fs) => fs.toList.mapM fun f => (szOf P f.type).map fun s => (f.offset,s)
 | _ => none
theorem run_places (w:World):∀ {fs:List Field}{l:List (Nat × Nat)},(fs.mapM fun f => (szOf P f.type).map fun s => (f.offset,s)) = some l →
  (fs.mapM fun (f : Field) => do pure (f.offset,← sizeOf f.type)).run P w = .ok l w
 | [],l,h => by simp at h;subst h;simp
 | f :: fs, l, h => by
  simp only [List.mapM_cons,Option.bind_eq_bind,Option.bind_eq_some_iff,Option.map_eq_some_iff] at h
  obtain ⟨x,⟨s,h1,rfl⟩,l',h2,h3⟩ := h
  cases h3
  have ih := run_places w h2
  simp only [bind_pure_comp] at ih
  simp [List.mapM_cons,run_sz h1,ih]
theorem pu_build (g:TG C ι T H a w){t:TypeId}{parts:Array (Nat × Operand)}{pl:List (Nat × Nat)}{zs:List Value}{l:List (Nat × AV)}{cs:List AV}(ho:o.op = .build t parts)
  (hp : plOf P t = some pl) (hz : zrOf P t = some zs) (hl : evs T parts.toList = some l) (hf : fillA (pl[·]?) (zs.map .v) l = some cs) : Pu P C ι H a w o (.agg cs) := by
 unfold plOf at hp
 split at hp
 ·rename_i fs hu
  obtain ⟨i,z,h1,h2,h3,h4⟩ := zrOf_i hz
  obtain ⟨h5,h6⟩ := evs_ok g hl
  obtain ⟨arr',h7,h8⟩ := fill_ok (place := (pl[·]?)) (arr := z.cells) (by rw [h3]; exact RdL_v h4) h5 h6 hf
  refine ⟨.agg arr',?_,by simp only [Rd]; exact ⟨arr'.toList,by simp,h8⟩⟩
  have hpl := run_places (P := P) w hp
  have hpl' : (fs.mapM fun (f : Field) => do pure (f.offset, ← sizeOf f.type)).run P w = .ok pl.toArray w := by
   rw [Array.mapM_eq_mapM_toList,Sem.run_map,hpl]; rfl
  simp only [execOp,ho,Instr.build,Sem.run_bind,zeroValue,typeInfo,run_program,Result.andThen_ok,h1,h2,Sem.run_pure,run_und hu,hpl']
  simp [h7]
 ·cases hp
theorem repl_get (zs:List Value) (h:zs ≠ []):∀ (n i:Nat),i < n * zs.length → ((List.replicate n zs).flatten)[i]? = some (zs[i % zs.length]!)
 | 0,i,hi => by simp at hi
 | n + 1, i, hi => by
  have hp : 0 < zs.length := List.length_pos_iff.2 h
  simp only [List.replicate_succ,List.flatten_cons,List.getElem?_append]
  by_cases hlt : i < zs.length
  ·rw [if_pos hlt, Nat.mod_eq_of_lt hlt]
   simp [hlt]
  ·have e : (n + 1) * zs.length = n * zs.length + zs.length := by rw [Nat.add_mul, Nat.one_mul]
   rw [if_neg hlt,repl_get zs h n (i - zs.length) (by omega),← Nat.mod_eq_sub_mod (by omega)]
theorem made_list (z:Array Value) (n k:Nat) (hk:k = n * z.size):((Array.range k).map (z[· % z.size]!)).toList = (List.replicate n z.toList).flatten:=by
 subst hk
 by_cases h : z = #[]
 ·subst h
  simp
 ·have hz : z.toList ≠ [] := by simpa using h
  apply List.ext_getElem?
  intro i
  by_cases hi : i < n * z.size
  ·rw [repl_get z.toList hz n i (by simpa using hi)]
   simp [hi]
   rw [getElem!_def]
   cases z[i % z.size]? <;> rfl
  ·rw [List.getElem?_eq_none (by simp;omega),List.getElem?_eq_none (by simp;omega)]
theorem all_flat (zs:List Value) (h:zs.all (·.oneCell') = true):∀ n,((List.replicate n zs).flatten).all (·.oneCell') = true
 | 0 => by simp
 | n + 1 => by simp only [List.replicate_succ,List.flatten_cons,List.all_append,h,all_flat zs h n,Bool.and_self]
theorem run_buildSlice {t el:TypeId}{len e:Nat}{i:TypeInfo}{z:Value}{ps:Array (Nat × Value)}{arr:Array Value}(hu:P.underlying t = some (.slice el)) (hi:P.info? el = some i) (hz:i.zero = some z)
  (he : i.size = e) (hsm : len * e ≤ 16777216)
  (hfl : Instr.fill (fun i => some (i * e,e)) ((Array.range (len * e)).map ((if len * e = 0 then #[] else z.cells)[· % (if len * e = 0 then (#[] : Array Value) else z.cells).size]!)) ps.toList = some arr) (w : World) :
  (Instr.buildSlice t len ps).run P w = .ok (.slice (some ⟨w.heap.size,0,none⟩) len len) (w.alloc (.cells arr el)) := by
 have hs : szOf P el = some e := by simp [szOf,hi,he]
 by_cases h0 : len * e = 0
 ·simp only [h0, if_true] at hfl
  simp only [Instr.buildSlice,Sem.run_bind,run_und hu,Result.andThen_ok,run_sz hs]
  rw [if_neg (by omega)]
  simp only [h0,if_true,Sem.run_bind,Sem.run_pure,Result.andThen_ok]
  rw [hfl]
  rfl
 ·simp only [h0, if_false] at hfl
  simp only [Instr.buildSlice,Sem.run_bind,run_und hu,Result.andThen_ok,run_sz hs]
  rw [if_neg (by omega)]
  simp only [h0,if_false,zeroValue,typeInfo,Sem.run_bind,Sem.run_pure,Result.andThen_ok,run_program,hi,hz]
  rw [hfl]
  rfl
theorem fillA_len {place:Nat → Option (Nat × Nat)}:∀ (ps:List (Nat × AV)) (c c':List AV),fillA place c ps = some c' → c'.length = c.length
 | [],c,c',h => by simp only [fillA,Option.some.injEq] at h;subst h;rfl
 | (i, av) :: ps, c, c', h => by
  simp only [fillA] at h
  split at h
  ·rename_i off size new hp hc
   split at h
   ·rename_i hcond
    rw [fillA_len ps _ _ h]
    simp [spl]
    omega
   ·cases h
  ·cases h
theorem ef_buildSlice (g:TG C ι T H a w) (gh:HG C ι F H w){t el:TypeId}{len e id:Nat}{parts:Array (Nat × Operand)}{zs:List Value}{l:List (Nat × AV)}{cs:List AV}(ho:o.op = .buildSlice t len parts)
  (ht : slOf P t = some el) (he : szOf P el = some e) (hz : zrOf P el = some zs) (hze : zs.length = e) (hsm : len * e ≤ 16777216) (hl : evs T parts.toList = some l)
  (hfl : fillA (fun i => some (i * e,e)) ((List.replicate len (zs.map .v)).flatten) l = some cs) (hf : F id) :
  Ef P C ι (fun j => F j ∧ j ≠ id) H a w o (.own id 0 len e) (upd H id (some cs)) := by
 obtain ⟨i,z,h1,h2,h3,h4⟩ := zrOf_i hz
 obtain ⟨h5,h6⟩ := evs_ok g hl
 have hzsz : z.cells.size = e := by rw [← hze,← h3]; simp
 have harr : ((Array.range (len * e)).map ((if len * e = 0 then #[] else z.cells)[· % (if len * e = 0 then (#[] : Array Value) else z.cells).size]!)).toList = (List.replicate len zs).flatten := by
  by_cases h0 : len * e = 0
  ·rcases Nat.mul_eq_zero.1 h0 with h | h
   ·subst h;simp
   ·subst h
    have : zs = [] := List.eq_nil_of_length_eq_zero hze
    subst this
    simp
  ·simp only [h0, if_false]
   rw [made_list z.cells len (len * e) (by rw [hzsz]),h3]
 have hrd : RdL w (badOf C.X ι H) ι ((List.replicate len (zs.map AV.v)).flatten) ((Array.range (len * e)).map ((if len * e = 0 then #[] else z.cells)[· % (if len * e = 0 then (#[] : Array Value) else z.cells).size]!)).toList := by
  rw [harr]
  have : (List.replicate len (zs.map AV.v)).flatten = ((List.replicate len zs).flatten).map AV.v := by rw [List.map_flatten,List.map_replicate]
  rw [this]
  exact RdL_v (all_flat zs h4 len)
 obtain ⟨arr',h7,h8⟩ := fill_ok (place := fun i => some (i * e,e)) hrd h5 h6 hfl
 obtain ⟨g1,g2⟩ := gh.alloc (id := id) hf (arr := arr') el (cs := cs) (l := arr'.toList) (rest := []) (by simp) h8
 have hsz : arr'.size = len * e := by
  have h9 := RdL.length h8
  have h10 := RdL.length hrd
  have h11 := fillA_len _ _ _ hfl
  simp only [Array.length_toList] at h9 h10
  have h12 : ((Array.range (len * e)).map ((if len * e = 0 then #[] else z.cells)[· % (if len * e = 0 then (#[] : Array Value) else z.cells).size]!)).size = len * e := by simp
  omega
 have hr := run_buildSlice (P := P) (ps := parts.map fun p => (p.1,a.eval p.2)) (arr := arr') (slOf_u ht) h1 h2 (szOf_i he h1) hsm (by rw [← h7,Array.toList_map]) w
 refine ⟨_,.slice (some ⟨w.heap.size,0,none⟩) len len,_,_,?_,.inl ⟨rfl,?_⟩,g1,g2⟩
 ·simp only [execOp,ho,Sem.run_bind,hr,Result.andThen_ok,Sem.run_pure]
 ·simp only [Rd]
  exact .inr ⟨w.heap.size,0,len,by simp,by simp,Nat.le_refl _,by rw [bsz,heap_alloc_new]; simp [hsz]⟩
theorem madeCells_list (z:Array Value) (n k:Nat) (hk:k = n * z.size):(madeCells z k).toList = (List.replicate n z.toList).flatten := made_list z n k hk
theorem ef_makeSlice (g:TG C ι T H a w) (gh:HG C ι F H w){t el:TypeId}{e by' id n:Nat}{x y:Operand}{zs:List Value}{k k':IntKind}(ho:o.op = .makeSlice t x y)
  (hx : ev T x = some (.v (.int k (n : Int)))) (hy : ev T y = some (.v (.int k' (n : Int)))) (ht : slOf P t = some el) (he : szOf P el = some e) (hb : byOf P el = some by') (hz : zrOf P el = some zs) (hze : zs.length = e)
  (hsm : by' * n ≤ 281474976710656) (hmx : n ≤ 9223372036854775807) (hf : F id) :
  Ef P C ι (fun j => F j ∧ j ≠ id) H a w o (.own id 0 n e) (upd H id (some ((List.replicate n (zs.map .v)).flatten))) := by
 obtain ⟨i,z,h1,h2,h3,h4⟩ := zrOf_i hz
 have hzsz : z.cells.size = e := by rw [← hze,← h3]; simp
 have hx' := ev_ok g hx
 have hy' := ev_ok g hy
 simp only [Rd] at hx' hy'
 have hr2 : ((by' : Nat) : Int) * (n : Int) ≤ 281474976710656 := by rw [← Int.natCast_mul]; omega
 have hr := run_make (P := P) w t el i z (slOf_u ht) h1 h2 k k' n n (by omega) (by omega) (by rw [byOf_i hb h1]; exact hr2) (by omega)
 simp only [Int.toNat_natCast,szOf_i he h1] at hr
 have harr : (madeCells z.cells (n * e)).toList = (List.replicate n zs).flatten := by rw [madeCells_list z.cells n (n * e) (by rw [hzsz]),h3]
 obtain ⟨g1, g2⟩ := gh.alloc (id := id) hf (arr := madeCells z.cells (n * e)) el (cs := (List.replicate n (zs.map AV.v)).flatten) (l := (List.replicate n zs).flatten) (rest := []) (by rw [harr]; simp) (by
  have : (List.replicate n (zs.map AV.v)).flatten = ((List.replicate n zs).flatten).map AV.v := by rw [List.map_flatten,List.map_replicate]
  rw [this]; exact RdL_v (all_flat zs h4 n))
 refine ⟨_,.slice (some ⟨w.heap.size,0,none⟩) n n,_,_,?_,.inl ⟨rfl,?_⟩,g1,g2⟩
 ·simp only [execOp,ho,hx',hy',Sem.run_bind,hr,Result.andThen_ok,Sem.run_pure]
 ·simp only [Rd]
  exact .inr ⟨w.heap.size,0,n,by simp,by simp,Nat.le_refl _,by rw [bsz,heap_alloc_new]; simp only [size_madeCells]; omega⟩
theorem RdC.seg {w:World}{bad:Nat → Prop}{ι:Pl}{b:Nat}{arr:Array Value}{el:TypeId}{fz:Nat × Nat}(hb:w.heap[b]? = some (.cells arr el fz)){cs:List AV}{o:Nat}
  (h : RdC w bad ι cs b o) : RdL w bad ι cs ((arr.toList.drop o).take cs.length) := by
 obtain ⟨l,h1,h2⟩ := RdC.to_list h
 have hlen := RdL.length h1
 have : (arr.toList.drop o).take cs.length = l := by
  apply List.ext_getElem?
  intro j
  by_cases hj : j < cs.length
  ·obtain ⟨x, hx⟩ : ∃ x, l[j]? = some x := ⟨l[j]'(by omega), by simp [hlen, hj]⟩
   have h3 := h2 j x hx
   rw [World.cell?] at h3
   simp only [hb] at h3
   simp [hj]
   rw [hx]
   simpa using h3
  ·rw [List.getElem?_eq_none (by simp;omega),List.getElem?_eq_none (by omega)]
 rw [this]
 exact h1
theorem store_ok (gh:HG C ι F H w){id off:Nat}{cs new:List AV}{l:List Value}{b β:Nat}(hH:H id = some cs) (hi:ι id = some (some (b,β))) (hl:off + new.length ≤ cs.length)
  (hn : RdL w (badOf C.X ι H) ι new l) :
  ∃ w',(storeCells ⟨b,β + off,none⟩ l).run P w = .ok () w' ∧ HG C ι F (upd H id (some (spl cs off new))) w' ∧ Carry w (badOf C.X ι H) ι w' (badOf C.X ι (upd H id (some (spl cs off new)))) ι := by
 rcases gh.obj id cs hH with ⟨h1,_⟩ | ⟨b',β',arr,el,h1,h2,h3,h4,h5,h6⟩
 ·rw [h1] at hi;cases hi
 rw [h1] at hi
 cases hi
 have hlen := RdL.length hn
 have h1c : ∀ {cs : List AV} {l : List Value}, RdL w (badOf C.X ι H) ι cs l → ∀ v ∈ l, v.oneCell' = true := by
  intro cs
  induction cs with
  | nil => intro l h;simp only [RdL] at h;subst h;simp
  | cons c cs ih =>
   intro l h
   simp only [RdL] at h
   obtain ⟨x,l',rfl,h0,_,h⟩ := h
   intro v hv
   rcases List.mem_cons.1 hv with rfl|hv
   ·exact h0
   ·exact ih h v hv
 have hst := run_storeCells_at P b (β + off) el l 0 arr w h2 (by omega) (h1c hn)
 simp only [Nat.add_zero] at hst
 refine ⟨_,hst,?_⟩
 have hseg := RdC.seg h2 h4
 have hrd := RdL_spl off hseg hn
 refine gh.mut hH h1 (setRow_heap w b arr _ el _ h2) ?_ (pre := arr.toList.take β) (l := ((arr.toList.drop β).take cs.length).take off ++ l ++ ((arr.toList.drop β).take cs.length).drop (off + l.length)) (post := arr.toList.drop (β + cs.length)) ?_ (by simp; omega) hrd
  (fun k hk => setRow_other w b k _ hk) rfl rfl rfl (by simp)
 ·simp [bsz,h2]; omega
 ·simp only [List.append_assoc]
  have e1 : arr.toList.take (β + off) = arr.toList.take β ++ ((arr.toList.drop β).take cs.length).take off := by
   rw [List.take_take,show min off cs.length = off from by omega,List.take_add]
  have e2 : arr.toList.drop (β + off + l.length) = ((arr.toList.drop β).take cs.length).drop (off + l.length) ++ arr.toList.drop (β + cs.length) := by
   have hx : (arr.toList.drop β).drop (off + l.length) = ((arr.toList.drop β).take cs.length ++ (arr.toList.drop β).drop cs.length).drop (off + l.length) := by rw [List.take_append_drop]
   rw [List.drop_drop,List.drop_append_of_le_length (by simp;omega),List.drop_drop] at hx
   rw [← hx,Nat.add_assoc]
  rw [e1,e2]
  simp only [List.append_assoc]
theorem ef_store (g:TG C ι T H a w) (gh:HG C ι F H w){t:TypeId}{x y:Operand}{id off n:Nat}{av:AV}{cs new:List AV}(ho:o.op = .store t x y) (hx:ev T x = some (.optr id off)) (hy:ev T y = some av)
  (hz : szOf P t = some n) (hc : cellsOf av = some new) (hn : new.length = n) (hH : H id = some cs) (hl : off + new.length ≤ cs.length) :
  Ef P C ι F H a w o (.v undef) (upd H id (some (spl cs off new))) := by
 have h1 := ev_ok g hx
 simp only [Rd] at h1
 obtain ⟨b,β,h2,h3⟩ := h1
 have h4 := cellsOf_ok (ev_ok g hy) hc
 obtain ⟨w',h5,h6,h7⟩ := store_ok (P := P) gh hH h2 hl h4
 have h8 := RdL.length h4
 refine ⟨.skip,undef,ι,w',?_,.inr ⟨rfl,rfl,rfl⟩,h6,h7⟩
 simp only [execOp,ho,h3,Instr.storeAt,Instr.sureAddr,Sem.run_bind,Sem.run_pure,Result.andThen_ok,storeVar,run_sz hz]
 rw [if_neg (by simp only [Array.length_toList] at h8;omega)]
 simp only [h5,Result.andThen_ok]
def sCells (H : Nat → Option (List AV)) (e : Nat) : AV → Option (Nat × List AV)
 | .own id off n _ => (H id).bind fun cs => if n * e ≤ (cs.drop off).length then some (n,(cs.drop off).take (n * e)) else none
 | .imm n cs => if n * e ≤ cs.length then some (n,cs.take (n * e)) else none
 | _ => none
theorem sCells_ok (gh:HG C ι F H w){av:AV}{y:Value}{e m:Nat}{cs:List AV}(h:Rd w (badOf C.X ι H) ι av y) (hs:sCells H e av = some (m,cs)) :
  ∃ ad c l, y = .slice ad m c ∧ l.length = m * e ∧ RdL w (badOf C.X ι H) ι cs l ∧ (∀ b o', ad = some ⟨b, o', none⟩ → ∀ j u, l[j]? = some u → w.cell? ⟨b, o' + j, none⟩ = some u) ∧
   ((∃ b o',ad = some ⟨b,o',none⟩) ∨ m = 0) := by
 cases av <;> simp only [sCells] at hs <;> first|(cases hs;done)|skip
 ·rename_i n cs0
  split at hs
  ·rename_i hlen
   cases hs
   simp only [Rd] at h
   obtain ⟨ad,c,rfl,h⟩ := h
   rcases h with h | ⟨b,o',_,rfl,h⟩
   ·subst h
    exact ⟨ad,c,[],rfl,by simp,by simp [RdL],fun b o' _ j u hj => by simp at hj,.inr rfl⟩
   ·have hq : RdC w (badOf C.X ι H) ι (cs0.take (m * e)) b o' := by
     rcases h with h|h
     ·subst h;simp [RdC]
     ·exact RdC.take _ h.2
    obtain ⟨l,h1,h2⟩ := RdC.to_list hq
    have hll := RdL.length h1
    refine ⟨_,c,l,rfl,by rw [hll]; simp;omega,h1,fun b2 o2 hb j u hj => ?_,.inl ⟨b,o',rfl⟩⟩
    cases hb
    exact h2 j u hj
  ·cases hs
 ·rename_i id off n e'
  cases hH : H id with
  | none => simp [hH] at hs
  | some cs0 =>
   simp only [hH,Option.bind_some] at hs
   split at hs
   ·rename_i hlen
    cases hs
    simp only [Rd] at h
    rcases h with ⟨_,rfl,a',rfl⟩ | ⟨b,β,c,h1,rfl,h2,h3⟩
    ·exact ⟨a',0,[],rfl,by simp,by simp [RdL],fun b o' _ j u hj => by simp at hj,.inr rfl⟩
    ·rcases gh.obj id cs0 hH with ⟨q1, _⟩ | ⟨b', β', arr, el, q1, q2, q3, q4, q5, q6⟩
     ·rw [q1] at h1;cases h1
     ·rw [q1] at h1; cases h1
      by_cases hoff : off ≤ cs0.length
      ·obtain ⟨l, h4, h5⟩ := RdC.to_list (RdC.take (m * e) (RdC.drop off hoff q4))
       have hll := RdL.length h4
       refine ⟨_,c,l,rfl,by rw [hll]; simp at hlen ⊢; omega,h4,fun b2 o2 hb j u hj => ?_,.inl ⟨b,_,rfl⟩⟩
       cases hb
       exact h5 j u hj
      ·have : cs0.drop off = [] := by simp; omega
       rw [this] at hlen ⊢
       have h0 : m * e = 0 := by simpa using hlen
       exact ⟨_,c,[],rfl,by simp [h0],by simp [RdL],fun b o' _ j u hj => by simp at hj,.inl ⟨b,_,rfl⟩⟩
   ·cases hs
theorem oneC_all:∀ {cs:List AV}{l:List Value},RdL w (badOf C.X ι H) ι cs l → ∀ v ∈ l,v.oneCell' = true
 | [],l,h => by simp only [RdL] at h;subst h;simp
 | c :: cs, l, h => by
  simp only [RdL] at h
  obtain ⟨x,l',rfl,h0,_,h⟩ := h
  intro v hv
  rcases List.mem_cons.1 hv with rfl|hv
  ·exact h0
  ·exact oneC_all h v hv
theorem run_append_room' (t ty e:TypeId) (i:TypeInfo) (ht:P.underlying t = some (.slice e)) (hi:P.info? e = some i)
  (g o sLen sCap : Nat) (cur : Array Value) (e2 : TypeId) (hg : w.heap[g]? = some (.cells cur e2 (0,0)))
  (x : Value) (m : Nat) (news : List Value) (hlen : (Builtin.lenOf x).run P w = .ok m w) (hnew : (Builtin.firstCells i.size m x).run P w = .ok news.toArray w)
  (h1 : ∀ u ∈ news,u.oneCell' = true) (hroom : sLen + m ≤ sCap) (hfit : o + sLen * i.size + news.length ≤ cur.size) :
  (Builtin.append_ #[t, t] ty #[.slice (some ⟨g, o, none⟩) sLen sCap, x]).run P w =
   .ok (.slice (some ⟨g,o,none⟩) (sLen + m) sCap) (w.setRow g (cur.toList.take (o + sLen * i.size) ++ news ++ cur.toList.drop (o + sLen * i.size + news.length)).toArray) := by
 have hst := run_storeCells_at P g (o + sLen * i.size) e2 news 0 cur w hg (by simpa using hfit) h1
 simp only [Nat.add_zero] at hst
 simp [Builtin.append_,run_und ht,sizeOf,typeInfo,hi,hlen,hroom,hnew,Addr.add_lit,hst]
theorem run_append_grow' (t ty e:TypeId) (i:TypeInfo) (z:Value) (ht:P.underlying t = some (.slice e)) (hi:P.info? e = some i) (hz:i.zero = some z)
  (b : Option Addr) (sLen sCap : Nat) (olds : List Value) (hold : ∀ w1 : World,(∀ a : Addr,w1.cell? a = w.cell? a) → (Builtin.firstCells i.size sLen (.slice b sLen sCap)).run P w1 = .ok olds.toArray w1)
  (x : Value) (n : Nat) (news : List Value) (hlen : (Builtin.lenOf x).run P w = .ok n w) (hnew : ∀ w1 : World,(∀ a : Addr,w1.cell? a = w.cell? a) → (Builtin.firstCells i.size n x).run P w1 = .ok news.toArray w1)
  (hg : sCap < sLen + n) (h63 : ((sLen + n : Nat) : Int) ≤ 9223372036854775807) (hfit : Builtin.nextslicecap (sLen + n) sCap * i.bytes ≤ 281474976710656) :
  (Builtin.append_ #[t, t] ty #[.slice b sLen sCap, x]).run P w =
   .ok (.slice (some ⟨w.heap.size, 0, none⟩) (sLen + n) (grownCap w (sLen + n) sCap e))
    (w.drew.alloc (.cells (olds.toArray ++ news.toArray ++ Builtin.zeroCells z.cells (grownCap w (sLen + n) sCap e - (sLen + n))) e)) := by
 have hn : ¬ (sLen + n ≤ sCap) := by omega
 have h63' : ¬ (9223372036854775807 < ((sLen : Int) + (n : Int))) := by omega
 have h48' : ¬ (281474976710656 < Builtin.nextslicecap (sLen + n) sCap * i.bytes) := by omega
 have hf := hnew w.drew (fun a => rfl)
 have hfo := hold w.drew (fun a => rfl)
 simp [Builtin.append_,run_und ht,sizeOf,typeInfo,zeroValue,hi,hz,hlen,hn,h63',h48',Question.forced,hf,hfo,newRow,grownCap]
 rw [← Array.append_assoc]
 simp
theorem drew_step (gh:HG C ι F H w):HG C ι F H w.drew ∧ Carry w (badOf C.X ι H) ι w.drew (badOf C.X ι H) ι:=by
 have hcar : Carry w (badOf C.X ι H) ι w.drew (badOf C.X ι H) ι := ⟨fun _ _ _ h1 h2 => ⟨h1,h2⟩,fun _ _ h => h,fun _ => Nat.le_refl _⟩
 refine ⟨⟨fun id cs h => ?_,gh.sep,⟨gh.fr.os,gh.fr.tape,gh.fr.output,gh.fr.size,gh.fr.block,gh.fr.bs⟩,gh.ex,gh.fresh⟩,hcar⟩
 rcases gh.obj id cs h with h1 | ⟨b',β',arr',e',h1,h2,h3,h4,h5,h6⟩
 ·exact .inl h1
 ·exact .inr ⟨b',β',arr',e',h1,h2,h3,RdC.carryB hcar _ _ _ (fun o x hx => hx) h4,h5,h6⟩
theorem first_some {l:List Value}{m e c:Nat}{b o':Nat}(hl:l.length = m * e) (h:∀ j u,l[j]? = some u → w.cell? ⟨b,o' + j,none⟩ = some u) (w1:World) (hw:∀ a:Addr,w1.cell? a = w.cell? a) (n:Nat) :
  (Builtin.firstCells e m (.slice (some ⟨b,o',none⟩) n c)).run P w1 = .ok l.toArray w1 :=
 run_firstCells_some w1 e m ⟨b,o',none⟩ n c l hl (fun j v hj => by rw [Addr.add_lit,hw]; exact h j v hj)
theorem upd_upd {α:Type}(f:Nat → α) (i:Nat) (x y:α):upd (upd f i x) i y = upd f i y := by funext j;simp only [upd]; split <;> rfl
theorem ef_append (gh:HG C ι F H w){t el:TypeId}{x y:Operand}{id id' off n m e e' by':Nat}{av:AV}{cs new:List AV}{zs:List Value}
  (ho : o.op = .call ⟨.builtin .append,#[x,y],#[t,t]⟩) (hx : Rd w (badOf C.X ι H) ι (.own id off n e') (a.eval x)) (hy : Rd w (badOf C.X ι H) ι av (a.eval y))
  (ht : slOf P t = some el) (he : szOf P el = some e) (hb : byOf P el = some by') (hz : zrOf P el = some zs) (hze : zs.length = e) (he0 : 0 < e) (hee : e' = e)
  (hH : H id = some cs) (hl : off + n * e ≤ cs.length) (hs : sCells H e (kAV av) = some (m,new)) (hbig : (n + m) * by' ≤ 140737488355328) (hmx : n + m ≤ 9223372036854775807) (hf : F id') :
  Ef P C ι (fun j => F j ∧ j ≠ id') H a w o (.own id' 0 (n + m) e) (upd (upd H id none) id' (some ((cs.drop off).take (n * e) ++ new))) := by
 subst hee
 obtain ⟨i,z,h1,h2,h3,h4⟩ := zrOf_i hz
 have hu := slOf_u ht
 have hsz := szOf_i he h1
 have hby := byOf_i hb h1
 have hzsz : z.cells.size = e' := by rw [← hze,← h3]; simp
 obtain ⟨ad,c2,l,hy2,hll,hrl,hcell,had⟩ := sCells_ok gh (Rd_kAV hy) hs
 have hx2 := hx
 simp only [Rd] at hx2
 have hlenx : ∀ w1 : World,(Builtin.lenOf (a.eval y)).run P w1 = .ok m w1 := fun w1 => by rw [hy2]; rfl
 have hnew : ∀ w1 : World, (∀ a : Addr, w1.cell? a = w.cell? a) → (Builtin.firstCells i.size m (a.eval y)).run P w1 = .ok l.toArray w1 := by
  intro w1 hw
  rw [hy2]
  rcases had with ⟨b,o',rfl⟩|h0
  ·rw [hsz]; exact first_some hll (hcell b o' rfl) w1 hw m
  ·subst h0
   have : l = [] := List.eq_nil_of_length_eq_zero (by simpa using hll)
   subst this
   cases ad with
   | none => rfl
   | some ad => simp [Builtin.firstCells,loadCells,loadCellsFrom]
 have hexec : ∀ v w', (Builtin.append_ #[t, t] o.type #[a.eval x, a.eval y]).run P w = .ok v w' → (execOp a.eval o).run P w = .ok (.value v) w' := by
  intro v w' h
  simp [execOp,ho,resolve,invoke,builtin,h]
 -- a new block
 have grown : ∀ (old : Nat) (olds : List Value) (b : Option Addr), old < n + m → a.eval x = .slice b n old → RdL w (badOf C.X ι H) ι ((cs.drop off).take (n * e')) olds → olds.length = n * e' →
   (∀ w1 : World,(∀ a : Addr,w1.cell? a = w.cell? a) → (Builtin.firstCells i.size n (.slice b n old)).run P w1 = .ok olds.toArray w1) →
   Ef P C ι (fun j => F j ∧ j ≠ id') H a w o (.own id' 0 (n + m) e') (upd (upd H id none) id' (some ((cs.drop off).take (n * e') ++ new))) := by
  intro old olds b hlt hxs hro hlo hold
  have hr := run_append_grow' (P := P) (w := w) t o.type el i z hu h1 h2 b n old olds hold (a.eval y) m l (hlenx w) hnew hlt (by omega) (growslice_fits hlt (by rw [hby]; exact hbig))
  obtain ⟨g1,c1⟩ := drew_step gh
  obtain ⟨g2, c2'⟩ := g1.less (F' := F) (H' := upd H id none) (fun j cs' hj => by
   by_cases e1 : j = id
   ·subst e1;simp at hj
   ·rwa [upd_ne _ _ e1] at hj) (fun _ h => h)
  have c3 := c1.trans c2'
  have hall : RdL w.drew (badOf C.X ι (upd H id none)) ι ((cs.drop off).take (n * e') ++ new) (olds ++ l) := RdL.append (RdL.carry c3 _ _ hro) (RdL.carry c3 _ _ hrl)
  obtain ⟨g3,c4⟩ := g2.alloc (id := id') hf (arr := olds.toArray ++ l.toArray ++ Builtin.zeroCells z.cells (grownCap w (n + m) old el - (n + m))) el (l := olds ++ l) (rest := (Builtin.zeroCells z.cells (grownCap w (n + m) old el - (n + m))).toList) (by simp) hall
  rw [← hxs] at hr
  refine ⟨_,.slice (some ⟨w.heap.size,0,none⟩) (n + m) (grownCap w (n + m) old el),_,_,hexec _ _ hr,.inl ⟨rfl,?_⟩,g3,c3.trans c4⟩
  simp only [Rd]
  have hge := grownCap_ge w (n + m) old el
  refine .inr ⟨w.heap.size,0,_,by simp,by simp,hge,?_⟩
  have hh : (w.drew.alloc (.cells (olds.toArray ++ l.toArray ++ Builtin.zeroCells z.cells (grownCap w (n + m) old el - (n + m))) el)).heap[w.heap.size]? = some (.cells (olds.toArray ++ l.toArray ++ Builtin.zeroCells z.cells (grownCap w (n + m) old el - (n + m))) el (0,0)) := heap_alloc_new w.drew _
  rw [bsz,hh]
  simp only [Array.size_append,List.size_toArray,size_zeroCells,hzsz,hlo,hll,← Nat.add_mul]
  rw [show n + m + (grownCap w (n + m) old el - (n + m)) = grownCap w (n + m) old el from by omega]
  omega
 rcases hx2 with ⟨p1,p2,a0,p4⟩ | ⟨b,β,c,p1,p2,p3,p4⟩
 ·subst p2
  by_cases hm : m = 0
  ·subst hm
   have hn0 : l = [] := List.eq_nil_of_length_eq_zero (by simpa using hll)
   subst hn0
   have hnew0 : new = [] := List.eq_nil_of_length_eq_zero (by have := RdL.length hrl;simpa using this.symm)
   subst hnew0
   obtain ⟨g2, c2'⟩ := gh.less (F' := F) (H' := upd H id none) (fun j cs' hj => by
    by_cases e1 : j = id
    ·subst e1;simp at hj
    ·rwa [upd_ne _ _ e1] at hj) (fun _ h => h)
   obtain ⟨g3,c3⟩ := g2.virt (id := id') hf
   refine ⟨_,.slice a0 0 0,_,w,hexec _ _ ?_,.inl ⟨rfl,?_⟩,by simpa using g3,by simpa using c2'.trans c3⟩
   ·have hn := hnew w (fun _ => rfl)
    rw [p4]
    simp [Builtin.append_,run_und hu,sizeOf,typeInfo,h1,hlenx w,hn]
    cases a0 <;> simp [storeCells]
   ·simp only [Rd]; exact .inl ⟨⟨none,by simp⟩,by simp⟩
  ·refine grown 0 [] a0 (by omega) p4 (by simp [RdL]) (by simp) (fun w1 _ => by cases a0 <;> simp [Builtin.firstCells,loadCells,loadCellsFrom])
 ·rcases gh.obj id cs hH with ⟨q1, _⟩ | ⟨b', β', arr, el', q1, q2, q3, q4, q5, q6⟩
  ·rw [q1] at p1;cases p1
  rw [q1] at p1
  cases p1
  by_cases hroom : n + m ≤ c
  ·have hne : n * e' + m * e' ≤ c * e' := by rw [← Nat.add_mul]; exact Nat.mul_le_mul_right _ hroom
   have hbz : bsz w b = arr.size := by simp [bsz,q2]
   have hfit : (β + off) + n * i.size + l.length ≤ arr.size := by rw [hsz,hll]; omega
   have hr := run_append_room' (P := P) (w := w) t o.type el i hu h1 b (β + off) n c arr el' q2 (a.eval y) m l (hlenx w) (hnew w (fun _ => rfl)) (oneC_all hrl) hroom hfit
   rw [← p2,hsz] at hr
   have hseg := RdC.seg q2 (RdC.take (off + n * e') q4)
   rw [List.length_take,show min (off + n * e') cs.length = off + n * e' from by omega] at hseg
   have hall := RdL.append hseg hrl
   obtain ⟨g1, c1⟩ := gh.mut (cs := cs.take (off + n * e') ++ new) hH q1 (setRow_heap w b arr (arr.toList.take (β + off + n * e') ++ l ++ arr.toList.drop (β + off + n * e' + l.length)).toArray el' _ q2) (by rw [hbz]; simp; rw [hsz] at hfit; omega)
    (pre := arr.toList.take β) (l := (arr.toList.drop β).take (off + n * e') ++ l) (post := arr.toList.drop (β + off + n * e' + l.length)) (by
     have e1 : arr.toList.take (β + off + n * e') = arr.toList.take β ++ (arr.toList.drop β).take (off + n * e') := by rw [Nat.add_assoc,List.take_add]
     simp only [e1,List.append_assoc]) (by simp;omega) hall (fun k hk => setRow_other w b k _ hk) rfl rfl rfl (by simp)
   obtain ⟨g2,c2'⟩ := g1.rename (id := id) (id' := id') (k := off) (upd_same _ _ _) hf q1 (by simp;omega)
   have hd : (cs.take (off + n * e') ++ new).drop off = (cs.drop off).take (n * e') ++ new := by
    rw [List.drop_append_of_le_length (by simp;omega),List.drop_take,Nat.add_sub_cancel_left]
   rw [upd_upd,hd] at g2 c2'
   refine ⟨_,.slice (some ⟨b,β + off,none⟩) (n + m) c,_,_,hexec _ _ hr,.inl ⟨rfl,?_⟩,g2,c1.trans c2'⟩
   simp only [Rd]
   refine .inr ⟨b,β + off,c,by simp,by simp,hroom,?_⟩
   have := c1.bs b
   omega
  ·have hseg := RdC.seg q2 (RdC.take (n * e') (RdC.drop off (by omega) q4))
   have hlen2 : ((cs.drop off).take (n * e')).length = n * e' := by simp;omega
   have hlo := RdL.length hseg
   rw [hlen2] at hseg hlo
   refine grown c _ (some ⟨b,β + off,none⟩) (by omega) p2 hseg hlo (fun w1 hw => ?_)
   rw [hsz]
   refine first_some hlo (fun j u hj => ?_) w1 hw n
   rw [World.cell?]
   simp only [q2]
   have hj2 : j < n * e' := by
    rcases Nat.lt_or_ge j (n * e') with h|h
    ·exact h
    ·rw [List.getElem?_eq_none (by omega)] at hj;cases hj
   simpa [hj2] using hj
end
mutual
def AV.pur : AV → Bool
 | .v _ => true
 | .any => true
 | .imm _ cs => pursB cs
 | .iptr cs => pursB cs
 | .own _ _ _ _ => false
 | .optr _ _ => false
 | .agg cs => pursB cs
 | .tup cs => pursB cs
 | .clos _ f c => pursB f && pursB c
 | .ownc _ _ _ _ _ => false
def pursB : List AV → Bool
 | [] => true
 | c :: cs => c.pur && pursB cs
end
mutual
theorem Rd.pur {w:World}{bad:Nat → Prop}{ι ι2:Pl}:∀ (av:AV) (y:Value),av.pur = true → Rd w bad ι av y → Rd w bad ι2 av y
 | .v x,y,_,h => by simpa only [Rd] using h
 | .any,y,_,h => by simpa only [Rd] using h
 | .imm n cs, y, hp, h => by
  simp only [AV.pur] at hp
  simp only [Rd] at h ⊢
  obtain ⟨a,c,rfl,h⟩ := h
  refine ⟨a,c,rfl,?_⟩
  rcases h with h | ⟨b,o,hn,rfl,h⟩
  ·exact .inl h
  ·refine .inr ⟨b, o, hn, rfl, ?_⟩
   rcases h with h | ⟨hb,h⟩
   ·exact .inl h
   ·exact .inr ⟨hb,RdC.pur cs b o hp h⟩
 | .iptr cs, y, hp, h => by
  simp only [AV.pur] at hp
  simp only [Rd] at h ⊢
  obtain ⟨b,o,rfl,h⟩ := h
  refine ⟨b,o,rfl,?_⟩
  rcases h with h | ⟨hb,h⟩
  ·exact .inl h
  ·exact .inr ⟨hb,RdC.pur cs b o hp h⟩
 | .own id off n e,y,hp,h => by simp [AV.pur] at hp
 | .ownc id off n c e,y,hp,h => by simp [AV.pur] at hp
 | .optr id off,y,hp,h => by simp [AV.pur] at hp
 | .agg cs, y, hp, h => by
  simp only [AV.pur] at hp
  simp only [Rd] at h ⊢
  obtain ⟨l,h1,h2⟩ := h
  exact ⟨l,h1,RdL.pur cs l hp h2⟩
 | .tup cs, y, hp, h => by
  simp only [AV.pur] at hp
  simp only [Rd] at h ⊢
  obtain ⟨l,h1,h2⟩ := h
  exact ⟨l,h1,RdV.pur cs l hp h2⟩
 | .clos fn f c, y, hp, h => by
  simp only [AV.pur,Bool.and_eq_true] at hp
  simp only [Rd] at h ⊢
  obtain ⟨l,l2,h1,h2,h3⟩ := h
  exact ⟨l,l2,h1,RdV.pur f l hp.1 h2,RdV.pur c l2 hp.2 h3⟩
theorem RdC.pur {w:World}{bad:Nat → Prop}{ι ι2:Pl}:∀ (cs:List AV) (b o:Nat),pursB cs = true → RdC w bad ι cs b o → RdC w bad ι2 cs b o
 | [],b,o,_,h => by simp only [RdC]
 | c :: cs, b, o, hp, h => by
  simp only [pursB,Bool.and_eq_true] at hp
  simp only [RdC] at h ⊢
  obtain ⟨⟨x,hx,h1,h2⟩,h3⟩ := h
  exact ⟨⟨x,hx,h1,Rd.pur c x hp.1 h2⟩,RdC.pur cs b (o + 1) hp.2 h3⟩
theorem RdL.pur {w:World}{bad:Nat → Prop}{ι ι2:Pl}:∀ (cs:List AV) (l:List Value),pursB cs = true → RdL w bad ι cs l → RdL w bad ι2 cs l
 | [],l,_,h => by simpa only [RdL] using h
 | c :: cs, l, hp, h => by
  simp only [pursB,Bool.and_eq_true] at hp
  simp only [RdL] at h ⊢
  obtain ⟨x,l',h0,h1,h2,h3⟩ := h
  exact ⟨x,l',h0,h1,Rd.pur c x hp.1 h2,RdL.pur cs l' hp.2 h3⟩
theorem RdV.pur {w:World}{bad:Nat → Prop}{ι ι2:Pl}:∀ (cs:List AV) (l:List Value),pursB cs = true → RdV w bad ι cs l → RdV w bad ι2 cs l
 | [],l,_,h => by simpa only [RdV] using h
 | c :: cs, l, hp, h => by
  simp only [pursB,Bool.and_eq_true] at hp
  simp only [RdV] at h ⊢
  obtain ⟨x,l',h0,h2,h3⟩ := h
  exact ⟨x,l',h0,Rd.pur c x hp.1 h2,RdV.pur cs l' hp.2 h3⟩
end
def lk : List (Nat × AV) → Nat → Option AV
 | [],_ => none
 | (t,v) :: l,u => cond (Nat.beq u t) (some v) (lk l u)
def lkH : List (Nat × Option (List AV)) → Nat → Option (List AV)
 | [],_ => none
 | (t,v) :: l,u => cond (Nat.beq u t) v (lkH l u)
theorem lk_c (t:Nat) (v:AV) (l:List (Nat × AV)) (u:Nat):lk ((t,v) :: l) u = if u = t then some v else lk l u:=by
 simp only [lk]
 by_cases h : u = t
 ·subst h;simp
 ·rw [if_neg h]
  have : Nat.beq u t = false := by
   cases hb : Nat.beq u t with
   | false => rfl
   | true => exact absurd (Nat.eq_of_beq_eq_true hb) h
  rw [this]; rfl
theorem lkH_c (t:Nat) (v:Option (List AV)) (l:List (Nat × Option (List AV))) (u:Nat):lkH ((t,v) :: l) u = if u = t then v else lkH l u:=by
 simp only [lkH]
 by_cases h : u = t
 ·subst h;simp
 ·rw [if_neg h]
  have : Nat.beq u t = false := by
   cases hb : Nat.beq u t with
   | false => rfl
   | true => exact absurd (Nat.eq_of_beq_eq_true hb) h
  rw [this]; rfl
theorem lk_cons (t:Nat) (v:AV) (l:List (Nat × AV)):lk ((t,v) :: l) = upd (lk l) t (some v) := by funext u;simp [lk_c,upd]
theorem lkH_cons (t:Nat) (v:Option (List AV)) (l:List (Nat × Option (List AV))):lkH ((t,v) :: l) = upd (lkH l) t v := by funext u;simp [lkH_c,upd]
def big : Nat := 400
theorem ltb {d N:Nat}(h:Nat.blt d N = true):d < N := by have := Nat.le_of_ble_eq_true (n := d + 1) (m := N) h;omega
structure Lo where
 lo : Nat
 fb : Nat
structure AS where
 ts : List (Nat × AV)
 hs : List (Nat × Option (List AV))
 nid : Nat
 lo : Lo
def Fn (n : Nat) (lo : Lo) (j : Nat) : Prop := n ≤ j ∧ (j < big ∨ lo.fb ≤ j)
def Gs (C : Ctx) (s : AS) (a : Act) (w : World) : Prop := (∀ id,s.lo.lo ≤ id → (big ≤ id ∧ id < s.lo.fb) ∨ C.ι0 id = none) ∧ ∃ ι,TG C ι (lk s.ts) (lkH s.hs) a w ∧ HG C ι (Fn s.nid s.lo) (lkH s.hs) w
def Le (s s' : AS) : Prop := ∀ C a w,Gs C s a w → Gs C s' a w
theorem Le.refl (s:AS):Le s s := fun _ _ _ h => h
theorem Le.of {s s':AS}(ht:∀ t av,lk s'.ts t = some av → lk s.ts t = some av) (hh:∀ i cs,lkH s'.hs i = some cs → lkH s.hs i = some cs) (hn:s.nid ≤ s'.nid) (hlo:s.lo = s'.lo):Le s s':=by
 rintro C a w ⟨h0,ι,g,gh⟩
 obtain ⟨gh',c⟩ := gh.less (F' := Fn s'.nid s'.lo) (H' := lkH s'.hs) hh (fun j hj => by rw [hlo]; exact ⟨Nat.le_trans hn hj.1,hj.2⟩)
 exact ⟨fun id h => by rw [← hlo] at h ⊢; exact h0 id h,ι,(g.less ht).carry c,gh'⟩
def subT (l : List (Nat × AV)) : List (Nat × AV) → Prop
 | [] => True
 | (t,v) :: l' => lk l t = some v ∧ subT l l'
def subH (l : List (Nat × Option (List AV))) : List (Nat × Option (List AV)) → Prop
 | [] => True
 | (t,v) :: l' => (v = none ∨ lkH l t = v) ∧ subH l l'
theorem subT_ok {l:List (Nat × AV)}:∀ {l':List (Nat × AV)},subT l l' → ∀ t av,lk l' t = some av → lk l t = some av
 | [],_,t,av,h => by simp [lk] at h
 | (u, v) :: l', hs, t, av, h => by
  simp only [subT] at hs
  simp only [lk_c] at h
  split at h
  ·rename_i e;subst e;cases h;exact hs.1
  ·exact subT_ok hs.2 t av h
theorem subH_ok {l:List (Nat × Option (List AV))}:∀ {l':List (Nat × Option (List AV))},subH l l' → ∀ t cs,lkH l' t = some cs → lkH l t = some cs
 | [],_,t,av,h => by simp [lkH] at h
 | (u, v) :: l', hs, t, av, h => by
  simp only [subH] at hs
  simp only [lkH_c] at h
  split at h
  ·rename_i e; subst e; subst h; rcases hs.1 with h1 | h1
   ·cases h1
   ·exact h1
  ·exact subH_ok hs.2 t av h
theorem Le.lit {ts ts':List (Nat × AV)}{hs hs':List (Nat × Option (List AV))}{n n':Nat}(h1:subT ts ts') (h2:subH hs hs'){lo:Lo}(h3:n ≤ n'):Le ⟨ts,hs,n,lo⟩ ⟨ts',hs',n',lo⟩ :=
 Le.of (subT_ok h1) (subH_ok h2) h3 rfl
def AW (P : Program) (N : Nat) (c : Code) (Q : Exit → AS → Prop) (s : AS) : Prop :=
 ∀ (C : Ctx) (a : Act) (w : World),C.N = N → Gs C s a w → c.wp P (fun e a' w' => ∃ s',Q e s' ∧ Gs C s' a' w') a w
section
variable {P : Program} {N : Nat} {Q : Exit → AS → Prop} {s : AS}
theorem AW.mono {c:Code}{Q':Exit → AS → Prop}(h:AW P N c Q s) (k:∀ e s,Q e s → Q' e s):AW P N c Q' s :=
 fun C a w hN g => wp_mono (h C a w hN g) fun e a w ⟨s',h1,h2⟩ => ⟨s',k e s' h1,h2⟩
theorem AW.le {c:Code}{s':AS}(h:AW P N c Q s') (k:Le s s'):AW P N c Q s := fun C a w hN g => h C a w hN (k C a w g)
def thenQ (K : AS → Prop) (Q : Exit → AS → Prop) : Exit → AS → Prop
 | .normal,s => K s
 | e,s => Q e s
def blkQ (id : Nat) (Q : Exit → AS → Prop) : Exit → AS → Prop
 | .exit i,s => if i = id then Q .normal s else Q (.exit i) s
 | e,s => Q e s
theorem aw_seq {x y:Code}(h:AW P N x (thenQ (AW P N y Q) Q) s):AW P N (.seq x y) Q s:=by
 intro C a w hN g
 refine wp_seq (wp_mono (h C a w hN g) ?_)
 rintro e a' w' ⟨s',h1,h2⟩
 cases e with
 | normal => exact h1 C a' w' hN h2
 | _ => exact ⟨s',h1,h2⟩
theorem aw_cond {x y:Code}{c:Operand}{b:Bool}(hc:ev (lk s.ts) c = some (.v (.bool b))) (h1:b = true → AW P N x Q s) (h2:b = false → AW P N y Q s):AW P N (.cond c x y) Q s:=by
 intro C a w hN ⟨h0,ι,g,gh⟩
 have h := ev_ok g hc
 simp only [Rd] at h
 cases b
 ·exact wp_cond_false h (h2 rfl C a w hN ⟨h0,ι,g,gh⟩)
 ·exact wp_cond_true h (h1 rfl C a w hN ⟨h0,ι,g,gh⟩)
theorem aw_block {id:Nat}{c:Code}(h:AW P N c (blkQ id Q) s):AW P N (.block id c) Q s:=by
 intro C a w hN g
 refine wp_block (wp_mono (h C a w hN g) ?_)
 rintro e a' w' ⟨s',h1,h2⟩
 cases e with
 | exit i =>
  simp only [Exit.inBlock,blkQ] at h1 ⊢
  split
  ·rename_i hi;rw [if_pos hi] at h1;exact ⟨s',h1,h2⟩
  ·rename_i hi;rw [if_neg hi] at h1;exact ⟨s',h1,h2⟩
 | _ => exact ⟨s',h1,h2⟩
theorem aw_skip (h:Q .normal s):AW P N .skip Q s := fun C a w _ g => wp_skip ⟨s,h,g⟩
theorem aw_exit {id:Nat}(h:Q (.exit id) s):AW P N (.exit id) Q s := fun C a w _ g => wp_exit ⟨s,h,g⟩
theorem aw_ret (h:Q .ret s):AW P N .ret Q s := fun C a w _ g => wp_ret ⟨s,h,g⟩
theorem exists_min (S:Nat → Prop) (h:∃ n,S n):∃ n,S n ∧ ∀ m,S m → n ≤ m:=by
 obtain ⟨n,hn⟩ := h
 induction n using Nat.strongRecOn with
 | _ n ih =>
  by_cases hx : ∃ m,m < n ∧ S m
  ·obtain ⟨m, h1, h2⟩ := hx
   exact ih m h1 h2
  ·exact ⟨n,hn,fun m hm => Nat.le_of_not_lt fun hlt => hx ⟨m,hlt,hm⟩⟩
open Classical in
noncomputable def leastOf (S : Nat → Prop) : Nat := if h : ∃ n,S n then Classical.choose (exists_min S h) else 0
theorem leastOf_spec {S:Nat → Prop}(h:∃ n,S n):S (leastOf S) ∧ ∀ m,S m → leastOf S ≤ m:=by
 unfold leastOf
 rw [dif_pos h]
 exact Classical.choose_spec (exists_min S h)
theorem aw_loop {σ:Type}{c:Code}(p:σ → Prop) (I:σ → AS) (μ:σ → Nat) (h0:∃ i,p i ∧ Le s (I i))
  (round : ∀ i,p i → AW P N c (thenQ (fun s' => ∃ j,p j ∧ μ j < μ i ∧ Le s' (I j)) Q) (I i)) : AW P N (.loop c) Q s := by
 intro C a w hN g
 obtain ⟨i,h1,h2⟩ := h0
 refine wp_loop (fun a w => ∃ i,p i ∧ Gs C (I i) a w) (fun a w => leastOf fun n => ∃ i,p i ∧ Gs C (I i) a w ∧ μ i = n) ⟨i,h1,h2 C a w g⟩ ?_
 rintro a w ⟨i0,hp0,hg0⟩
 obtain ⟨⟨i,hp,hg,hm⟩,hmin⟩ := leastOf_spec (S := fun n => ∃ i,p i ∧ Gs C (I i) a w ∧ μ i = n) ⟨_,i0,hp0,hg0,rfl⟩
 refine wp_mono (round i hp C a w hN hg) ?_
 rintro e a' w' ⟨s',h3,h4⟩
 cases e with
 | normal =>
  obtain ⟨j,q1,q2,q3⟩ := h3
  refine ⟨⟨j,q1,q3 C a' w' h4⟩,?_⟩
  have := (leastOf_spec (S := fun n => ∃ i,p i ∧ Gs C (I i) a' w' ∧ μ i = n) ⟨_,j,q1,q3 C a' w' h4,rfl⟩).2 (μ j) ⟨j,q1,q3 C a' w' h4,rfl⟩
  omega
 | _ => exact ⟨s',h3,h4⟩
end
section generic
variable {ρ β : Type} [DecidableEq ρ]
def ov1 (S : ρ → β) (r : ρ) (x : β) : ρ → β := fun q => if q = r then x else S q
def ov (S : ρ → β) : List (ρ × β) → ρ → β
 | [] => S
 | (r,x) :: W => ov (ov1 S r x) W
def keys (W : List (ρ × β)) : List ρ := W.map (·.1)
theorem ov_not {r:ρ}:∀ (W:List (ρ × β)) (S:ρ → β),r ∉ keys W → ov S W r = S r
 | [],S,_ => rfl
 | (q, x) :: W, S, h => by
  simp only [keys,List.map_cons,List.mem_cons,not_or] at h
  simp only [ov]
  rw [ov_not W _ h.2,ov1,if_neg h.1]
theorem ov_mem {r:ρ}:∀ (W:List (ρ × β)) (S S':ρ → β),r ∈ keys W → ov S W r = ov S' W r
 | [],S,S',h => by simp [keys] at h
 | (q, x) :: W, S, S', h => by
  simp only [ov]
  by_cases hm : r ∈ keys W
  ·exact ov_mem W _ _ hm
  ·rw [ov_not W _ hm, ov_not W _ hm]
   simp only [keys,List.map_cons,List.mem_cons] at h hm
   rcases h with h|h
   ·simp [ov1,h]
   ·exact (hm h).elim
theorem ov_congr {r:ρ}(W:List (ρ × β)){S S':ρ → β}(h:S r = S' r):ov S W r = ov S' W r:=by
 by_cases hm : r ∈ keys W
 ·exact ov_mem W _ _ hm
 ·rw [ov_not W _ hm,ov_not W _ hm,h]
def stL (p : Nat → Bool) : Nat → List (List (ρ × β)) → (ρ → β) → ρ → β
 | _,[],S => S
 | k,W :: Ws,S => stL p (k + 1) Ws (if p k then ov S W else S)
theorem stL_congr {r:ρ}{p q:Nat → Bool}:∀ (Ws:List (List (ρ × β))) (k:Nat) (S S':ρ → β),S r = S' r → (∀ (j:Nat) W,Ws[j]? = some W → r ∈ keys W → p (k + j) = q (k + j)) → stL p k Ws S r = stL q k Ws S' r
 | [],k,S,S',h,_ => h
 | W :: Ws, k, S, S', h, hw => by
  simp only [stL]
  refine stL_congr Ws (k + 1) _ _ ?_ (fun j W' hj hm => by have := hw (j + 1) W' (by simpa using hj) hm;rwa [show k + (j + 1) = k + 1 + j from by omega] at this)
  by_cases hm : r ∈ keys W
  ·have := hw 0 W (by simp) hm
   simp only [Nat.add_zero] at this
   rw [this]
   split
   ·exact ov_congr W h
   ·exact h
  ·have h1 : ∀ (b : Bool) (S : ρ → β), (if b then ov S W else S) r = S r := fun b S => by split <;> simp [ov_not W _ hm]
   rw [h1,h1,h]
theorem stL_none {r:ρ}{p:Nat → Bool}:∀ (Ws:List (List (ρ × β))) (k:Nat) (S:ρ → β),(∀ (j:Nat) W,Ws[j]? = some W → r ∈ keys W → p (k + j) = false) → stL p k Ws S r = S r
 | [],k,S,_ => rfl
 | W :: Ws, k, S, hw => by
  simp only [stL]
  rw [stL_none Ws (k + 1) _ (fun j W' hj hm => by have := hw (j + 1) W' (by simpa using hj) hm;rwa [show k + (j + 1) = k + 1 + j from by omega] at this)]
  by_cases hm : r ∈ keys W
  ·have := hw 0 W (by simp) hm
   simp only [Nat.add_zero] at this
   rw [this]; rfl
  ·split
   ·exact ov_not W _ hm
   ·rfl
theorem stL_last {r:ρ}{p:Nat → Bool}:∀ (Ws:List (List (ρ × β))) (k i:Nat) (W:List (ρ × β)) (S S':ρ → β),Ws[i]? = some W → r ∈ keys W → p (k + i) = true →
  (∀ (j : Nat) W',i < j → Ws[j]? = some W' → r ∈ keys W' → p (k + j) = false) → stL p k Ws S r = ov S' W r
 | [],k,i,W,S,S',h,_,_,_ => by simp at h
 | W0 :: Ws, k, 0, W, S, S', h, hm, hp, hw => by
  simp at h;subst h
  simp only [stL]
  simp only [Nat.add_zero] at hp
  rw [hp,stL_none Ws (k + 1) _ (fun j W' hj hm' => by have := hw (j + 1) W' (by omega) (by simpa using hj) hm'; rwa [show k + (j + 1) = k + 1 + j from by omega] at this)]
  exact ov_mem _ _ _ hm
 | W0 :: Ws, k, i + 1, W, S, S', h, hm, hp, hw => by
  simp only [stL]
  exact stL_last Ws (k + 1) i W _ _ (by simpa using h) hm (by rw [← hp]; congr 1; omega) (fun j W' hj h1 h2 => by
   have := hw (j + 1) W' (by omega) (by simpa using h1) h2;rwa [show k + (j + 1) = k + 1 + j from by omega] at this)
end generic
abbrev Res := Nat ⊕ Nat
abbrev Sta := Res → Option (List AV)
def tOf (S : Sta) (t : Nat) : Option AV := match S (.inl t) with | some [v] => some v | _ => none
def hOf (S : Sta) (i : Nat) : Option (List AV) := S (.inr i)
structure Acn where
 rs : List Res
 ws : List (Res × Option (List AV))
 f0 : Nat
 f1 : Nat
def LOp (P : Program) (N : Nat) (all : Array Oper) (o : Oper) (S0 : Sta) (A : Acn) : Prop :=
 ∀ (C : Ctx) (ι : Pl) (F : Nat → Prop) (S : Sta) (a : Act) (w : World), C.N = N → (∀ r ∈ A.rs, S r = S0 r) → (∀ j, A.f0 ≤ j → j < A.f1 → F j) → TG C ι (tOf S) (hOf S) a w → HG C ι F (hOf S) w →
  ∀ (K : Act → World → Prop) (Q : Exit → Act → World → Prop),
   (∀ ι' a' w',TG C ι' (tOf (ov S A.ws)) (hOf (ov S A.ws)) a' w' → HG C ι' (fun j => F j ∧ ¬ (A.f0 ≤ j ∧ j < A.f1)) (hOf (ov S A.ws)) w' → K a' w') →
   if Region.wanted o (yielded all a.tmps) then o.wp P a w K Q else K (a.put o.dst undef) w
inductive Tr (P : Program) (N : Nat) (all : Array Oper) : List Oper → Sta → Nat → List Acn → Sta → Nat → Prop
 | nil (S : Sta) (n : Nat) : Tr P N all [] S n [] S n
 | cons {o : Oper} {rest : List Oper} {S S' : Sta} {n n' : Nat} {A : Acn} {As : List Acn} : LOp P N all o S A → A.f0 = n → n ≤ A.f1 → Tr P N all rest (ov S A.ws) A.f1 As S' n' → Tr P N all (o :: rest) S n (A :: As) S' n'
theorem Tr.le {P:Program}{N:Nat}{all:Array Oper}{l:List Oper}{S S':Sta}{n n':Nat}{As:List Acn}(h:Tr P N all l S n As S' n'):n ≤ n':=by
 induction h with
 | nil => exact Nat.le_refl _
 | cons _ h1 h2 _ ih => omega
theorem Tr.len {P:Program}{N:Nat}{all:Array Oper}{l:List Oper}{S S':Sta}{n n':Nat}{As:List Acn}(h:Tr P N all l S n As S' n'):l.length = As.length:=by
 induction h with
 | nil => rfl
 | cons _ h1 h2 _ ih => simp [ih]
theorem Tr.at {P:Program}{N:Nat}{all:Array Oper}{l:List Oper}{S S':Sta}{n n':Nat}{As:List Acn}(h:Tr P N all l S n As S' n'):∀ (k i:Nat) (o:Oper) (A:Acn),l[i]? = some o → As[i]? = some A →
  LOp P N all o (stL (fun j => decide (j < k + i)) k (As.map (·.ws)) S) A ∧ n ≤ A.f0 ∧ A.f0 ≤ A.f1 ∧ A.f1 ≤ n' := by
 induction h with
 | nil => intro k i o A h;simp at h
 | @cons o0 rest S S' n n' A0 As h1 h2 h3 h4 ih =>
  intro k i o A ho hA
  have hle := h4.le
  cases i with
  | zero =>
   simp at ho hA
   subst ho hA
   refine ⟨?_,by omega,by omega,by omega⟩
   have : stL (fun j => decide (j < k + 0)) k ((A0 :: As).map (·.ws)) S = S := by
    funext r
    refine stL_none _ k S (fun j W hj hm => by simp)
   rw [this]; exact h1
  | succ i =>
   obtain ⟨q1,q2,q3,q4⟩ := ih (k + 1) i o A (by simpa using ho) (by simpa using hA)
   refine ⟨?_,by omega,q3,q4⟩
   have : stL (fun j => decide (j < k + (i + 1))) k ((A0 :: As).map (·.ws)) S = stL (fun j => decide (j < k + 1 + i)) (k + 1) (As.map (·.ws)) (ov S A0.ws) := by
    simp only [List.map_cons,stL]
    rw [show (decide (k < k + (i + 1))) = true from by simp]
    simp only [if_true]
    congr 1
    funext j
    congr 1
    rw [show k + (i + 1) = k + 1 + i from by omega]
   rw [this]; exact q1
theorem Tr.end {P:Program}{N:Nat}{all:Array Oper}{l:List Oper}{S S':Sta}{n n':Nat}{As:List Acn}(h:Tr P N all l S n As S' n'):∀ (k:Nat) (p:Nat → Bool),(∀ j,j < As.length → p (k + j) = true) → stL p k (As.map (·.ws)) S = S':=by
 induction h with
 | nil => intro k p _; rfl
 | cons h1 h2 h3 h4 ih =>
  intro k p hp
  simp only [List.map_cons,stL]
  rw [show p k = true from by have := hp 0 (by simp);simpa using this]
  exact ih (k + 1) p (fun j hj => by have := hp (j + 1) (by simpa using hj);rwa [show k + (j + 1) = k + 1 + j from by omega] at this)
def dir (o : Oper) : List Nat := o.after.toList.filterMap fun e => if Region.binds .any e then some e.on else none
def tpGo : List Oper → List (List Nat) → List (List Nat)
 | [],acc => acc
 | o :: os,acc => tpGo os (acc ++ [dir o ++ (dir o).flatMap fun m => acc.getD m []])
theorem tpGo_ok {L:Nat → Prop}:∀ (os done:List Oper) (acc:List (List Nat)),acc.length = done.length →
  (∀ j o,(done ++ os)[j]? = some o → L j → ∀ m ∈ dir o,L m) →
  (∀ j o,done[j]? = some o → (∀ m ∈ dir o,L m) → ∀ i ∈ acc.getD j [],L i) →
  ∀ j o,(done ++ os)[j]? = some o → (∀ m ∈ dir o,L m) → ∀ i ∈ (tpGo os acc).getD j [],L i
 | [],done,acc,hl,hd,ha,j,o,ho,hm => by simp only [List.append_nil] at ho;exact ha j o ho hm
 | o1 :: os, done, acc, hl, hd, ha, j, o, ho, hm => by
  have hre : done ++ o1 :: os = (done ++ [o1]) ++ os := by simp
  refine tpGo_ok os (done ++ [o1]) _ (by simp [hl]) (by rw [← hre]; exact hd) ?_ j o (by rw [← hre]; exact ho) hm
  intro j2 o2 h2 hm2 i hi
  by_cases hj : j2 < done.length
  ·rw [List.getElem?_append_left hj] at h2
   rw [List.getD_eq_getElem?_getD,List.getElem?_append_left (by omega),← List.getD_eq_getElem?_getD] at hi
   exact ha j2 o2 h2 hm2 i hi
  ·by_cases hj2 : j2 = done.length
   ·subst hj2
    simp at h2
    subst h2
    rw [List.getD_eq_getElem?_getD,← hl] at hi
    simp at hi
    rcases hi with hi | ⟨m,hm3,hi⟩
    ·exact hm2 i hi
    ·have hLm := hm2 m hm3
     by_cases hlt : m < done.length
     ·obtain ⟨om, hom⟩ : ∃ om, done[m]? = some om := ⟨done[m], by simp [hlt]⟩
      exact ha m om hom (hd m om (by rw [List.getElem?_append_left hlt]; exact hom) hLm) i (by rw [List.getD_eq_getElem?_getD]; exact hi)
     ·rw [List.getElem?_eq_none (by omega)] at hi
      simp at hi
   ·rw [List.getElem?_eq_none (by simp;omega)] at h2;cases h2
def hit (a b : List Res) : Bool := a.any fun x => b.any fun y => match x,y with | .inl i,.inl j => Nat.beq i j | .inr i,.inr j => Nat.beq i j | _,_ => false
theorem hit_ok {a b:List Res}{r:Res}(h1:r ∈ a) (h2:r ∈ b):hit a b = true:=by
 simp only [hit,List.any_eq_true]
 refine ⟨r,h1,r,h2,?_⟩
 cases r <;> simp
def clash (A B : List Res × List Res) : Bool := hit A.2 B.1 || hit A.2 B.2 || hit A.1 B.2
def kOf (A : Acn) : List Res × List Res := (A.rs,keys A.ws)
def chk (ops : List Oper) (As : List (List Res × List Res)) : Bool :=
 let tp := tpGo ops []
 (As.zipIdx.all fun (B,j) => As.zipIdx.all fun (A,i) => !(Nat.blt i j && clash A B) || (tp.getD j []).any (Nat.beq i ·)) &&
 ops.zipIdx.all fun (o,i) => (dir o).all fun m => Nat.blt m i
theorem chk_clash {ops:List Oper}{As:List Acn}(h:chk ops (As.map kOf) = true){i j:Nat}{A B:Acn}(hA:As[i]? = some A) (hB:As[j]? = some B) (hij:i < j) (hc:clash (kOf A) (kOf B) = true):i ∈ (tpGo ops []).getD j []:=by
 simp only [chk,Bool.and_eq_true,List.all_eq_true] at h
 have h1 := h.1 (kOf B,j) (by rw [List.mem_zipIdx_iff_getElem?]; simp [hB]) (kOf A,i) (by rw [List.mem_zipIdx_iff_getElem?]; simp [hA])
 have hb : Nat.blt i j = true := by simp [Nat.blt]; omega
 simp only [hb,hc,Bool.and_self,Bool.not_true,Bool.false_or,List.any_eq_true] at h1
 obtain ⟨x,h2,h3⟩ := h1
 have := Nat.eq_of_beq_eq_true h3
 subst this;exact h2
theorem chk_dir {ops:List Oper}{As:List (List Res × List Res)}(h:chk ops As = true){i:Nat}{o:Oper}(ho:ops[i]? = some o):∀ m ∈ dir o,m < i:=by
 simp only [chk,Bool.and_eq_true,List.all_eq_true] at h
 intro m hm
 exact ltb (h.2 (o,i) (by rw [List.mem_zipIdx_iff_getElem?]; exact ho) m hm)
def sOf (s : AS) : Sta
 | .inl t => (lk s.ts t).map fun v => [v]
 | .inr i => lkH s.hs i
theorem tOf_sOf (s:AS):tOf (sOf s) = lk s.ts:=by
 funext t
 simp only [tOf,sOf]
 cases lk s.ts t <;> rfl
theorem hOf_sOf (s:AS):hOf (sOf s) = lkH s.hs := rfl
theorem Tr.apart {P:Program}{N:Nat}{all:Array Oper}{l:List Oper}{S S':Sta}{n n':Nat}{As:List Acn}(h:Tr P N all l S n As S' n'):∀ (i j:Nat) (A B:Acn),As[i]? = some A → As[j]? = some B → i < j → A.f1 ≤ B.f0:=by
 induction h with
 | nil => intro i j A B h;simp at h
 | @cons o0 rest S S' n n' A0 As h1 h2 h3 h4 ih =>
  intro i j A B hA hB hij
  cases j with
  | zero => omega
  | succ j =>
   cases i with
   | zero =>
    simp at hA hB
    subst hA
    have hlt : j < rest.length := by
     rw [h4.len]
     rcases Nat.lt_or_ge j As.length with h|h
     ·exact h
     ·rw [List.getElem?_eq_none h] at hB;cases hB
    have := h4.at 0 j rest[j] B (by simp [hlt]) hB
    omega
   | succ i => exact ih i j A B (by simpa using hA) (by simpa using hB) (by omega)
section
variable {P : Program} {N : Nat} {Q : Exit → AS → Prop} {ops : List Oper} {S0 S' : Sta} {n n' : Nat} {As : List Acn}
def LL (listed : Array Bool) (j : Nat) : Bool := listed.getD j false
theorem LL_set (listed:Array Bool) (i j:Nat) (hi:i < listed.size):LL (listed.setIfInBounds i true) j = (LL listed j || Nat.beq j i):=by
 unfold LL
 by_cases h : j = i
 ·subst h
  simp [Array.getD_eq_getD_getElem?,hi]
 ·have : Nat.beq j i = false := by
   cases hb : Nat.beq j i with
   | false => rfl
   | true => exact absurd (Nat.eq_of_beq_eq_true hb) h
  rw [this,Bool.or_false,Array.getD_eq_getD_getElem?,Array.getD_eq_getD_getElem?,Array.getElem?_setIfInBounds_ne (by omega)]
structure InvD (C : Ctx) (ops : List Oper) (S0 : Sta) (E : Nat → Prop) (As : List Acn) (listed : Array Bool) (a : Act) (w : World) : Prop where
 sz : listed.size = ops.length
 down : ∀ j o,ops[j]? = some o → LL listed j = true → ∀ m ∈ dir o,LL listed m = true
 st : ∃ ι, TG C ι (tOf (stL (LL listed) 0 (As.map (·.ws)) S0)) (hOf (stL (LL listed) 0 (As.map (·.ws)) S0)) a w ∧
  HG C ι (fun id => E id ∨ ∃ (j : Nat) (A : Acn),As[j]? = some A ∧ LL listed j = false ∧ A.f0 ≤ id ∧ id < A.f1) (hOf (stL (LL listed) 0 (As.map (·.ws)) S0)) w
theorem draw_main (tr:Tr P N ops.toArray ops S0 n As S' n') (hc:chk ops (As.map kOf) = true){E:Nat → Prop}(hE:∀ id,E id → n' ≤ id){C:Ctx}(hCN:C.N = N){QQ:Exit → Act → World → Prop}
  (hend : ∀ ι a w,TG C ι (tOf S') (hOf S') a w → HG C ι E (hOf S') w → QQ .normal a w) :
  ∀ (fuel : Nat) (listed : Array Bool) (a : Act) (w : World),listed.toList.count false ≤ fuel → InvD C ops S0 E As listed a w → wpAny P .any ops.toArray QQ fuel listed a w := by
 have hlen := tr.len
 have htp : ∀ (listed : Array Bool), (∀ j o, ops[j]? = some o → LL listed j = true → ∀ m ∈ dir o, LL listed m = true) → ∀ j o, ops[j]? = some o → (∀ m ∈ dir o, LL listed m = true) → ∀ i ∈ (tpGo ops []).getD j [], LL listed i = true := by
  intro listed hd j o ho hm i hi
  exact tpGo_ok (L := fun j => LL listed j = true) ops [] [] rfl (by simpa using hd) (fun j o h => by simp at h) j o (by simpa using ho) hm i hi
 have hready : ∀ (listed : Array Bool) (i : Nat), i ∈ Region.ready .any ops.toArray listed ↔ ∃ o, ops[i]? = some o ∧ listed.getD i true = false ∧ ∀ m ∈ dir o, LL listed m = true := by
  intro listed i
  simp only [Region.ready,List.mem_filter,List.mem_range,List.size_toArray,Bool.and_eq_true,Bool.not_eq_true']
  constructor
  ·rintro ⟨h1, h2, h3⟩
   refine ⟨ops[i],by simp [h1],h2,fun m hm => ?_⟩
   simp only [List.getElem?_toArray,List.getElem?_eq_getElem h1,Option.map_some,Option.getD_some,Array.all_eq_true_iff_forall_mem] at h3
   simp only [dir,List.mem_filterMap,Array.mem_toList_iff] at hm
   obtain ⟨e,he,hm⟩ := hm
   split at hm
   ·rename_i hb
    cases hm
    have := h3 e he
    simpa [hb,LL] using this
   ·cases hm
  ·rintro ⟨o, h1, h2, h3⟩
   have hlt : i < ops.length := by
    rcases Nat.lt_or_ge i ops.length with h|h
    ·exact h
    ·rw [List.getElem?_eq_none h] at h1;cases h1
   refine ⟨hlt,h2,?_⟩
   simp only [List.getElem?_toArray,h1,Option.map_some,Option.getD_some,Array.all_eq_true_iff_forall_mem]
   intro e he
   cases hb : Region.binds .any e with
   | false => rfl
   | true =>
    have := h3 e.on (by simp only [dir,List.mem_filterMap,Array.mem_toList_iff]; exact ⟨e,he,by simp [hb]⟩)
    simpa [LL] using this
 have hall : ∀ (listed : Array Bool), listed.size = ops.length → Region.ready .any ops.toArray listed = [] → ∀ j, j < ops.length → LL listed j = true := by
  intro listed hsz hr j
  induction j using Nat.strongRecOn with
  | _ j ih =>
   intro hj
   cases hL : LL listed j with
   | true => rfl
   | false =>
    have hm : j ∈ Region.ready .any ops.toArray listed := by
     rw [hready]
     refine ⟨ops[j],by simp [hj],?_,fun m hm => ?_⟩
     ·simp only [LL, Array.getD_eq_getD_getElem?] at hL ⊢
      rw [Array.getElem?_eq_getElem (by omega)] at hL ⊢
      simpa using hL
     ·have hmj := chk_dir hc (i := j) (o := ops[j]) (by simp [hj]) m hm
      exact ih m hmj (by omega)
    rw [hr] at hm;cases hm
 have hfin : ∀ (listed : Array Bool) (a : Act) (w : World), InvD C ops S0 E As listed a w → Region.ready .any ops.toArray listed = [] → QQ .normal a w := by
  intro listed a w hI hr
  have hall' := hall listed hI.sz hr
  obtain ⟨ι,g,gh⟩ := hI.st
  have he := tr.end 0 (LL listed) (fun j hj => by rw [Nat.zero_add]; exact hall' j (by omega))
  rw [he] at g gh
  obtain ⟨gh2,c2⟩ := gh.less (F' := E) (H' := hOf S') (fun _ _ h => h) (fun _ h => .inl h)
  exact hend ι a w (g.carry c2) gh2
 intro fuel
 induction fuel with
 | zero =>
  intro listed a w hcnt hI
  have h0 : Region.ready .any ops.toArray listed = [] := by
   cases hr : Region.ready .any ops.toArray listed with
   | nil => rfl
   | cons i rs =>
    have hi : i ∈ Region.ready .any ops.toArray listed := by rw [hr]; simp
    rw [hready] at hi
    obtain ⟨o,h1,h2,_⟩ := hi
    have hlt : i < listed.size := by
     rcases Nat.lt_or_ge i listed.size with h|h
     ·exact h
     ·rw [Array.getD_eq_getD_getElem?,Array.getElem?_eq_none h] at h2;simp at h2
    have hmem : false ∈ listed.toList := by
     rw [Array.getD_eq_getD_getElem?,Array.getElem?_eq_getElem hlt] at h2
     simp at h2
     rw [← h2]; simp
    have := List.count_pos_iff.2 hmem
    omega
  exact ⟨h0,hfin listed a w hI h0⟩
 | succ fuel ih =>
  intro listed a w hcnt hI
  refine ⟨fun hr => hfin listed a w hI hr,fun i hi => ?_⟩
  rw [hready] at hi
  obtain ⟨o,ho,hun,hdir⟩ := hi
  have hilt : i < ops.length := by
   rcases Nat.lt_or_ge i ops.length with h|h
   ·exact h
   ·rw [List.getElem?_eq_none h] at ho;cases ho
  have hils : i < listed.size := by rw [hI.sz]; exact hilt
  have hLi : LL listed i = false := by
   simp only [LL,Array.getD_eq_getD_getElem?] at hun ⊢
   rw [Array.getElem?_eq_getElem hils] at hun ⊢
   simpa using hun
  obtain ⟨A,hA⟩ : ∃ A,As[i]? = some A := ⟨As[i]'(by omega),by simp [show i < As.length from by omega]⟩
  obtain ⟨hop,hf0,hf01,hf1⟩ := tr.at 0 i o A ho hA
  obtain ⟨ι,g,gh⟩ := hI.st
  have hwsAt : ∀ (j : Nat) W, (As.map (·.ws))[j]? = some W → ∃ B o', As[j]? = some B ∧ W = B.ws ∧ ops[j]? = some o' := by
   intro j W hW
   simp only [List.getElem?_map,Option.map_eq_some_iff] at hW
   obtain ⟨B,hB,rfl⟩ := hW
   have hj : j < ops.length := by
    rw [hlen]
    rcases Nat.lt_or_ge j As.length with h|h
    ·exact h
    ·rw [List.getElem?_eq_none h] at hB;cases hB
   exact ⟨B,ops[j],hB,rfl,by simp [hj]⟩
  -- an operation behind i that clashes with it is not listed
  have hlater : ∀ (j : Nat) (B : Acn) o', As[j]? = some B → ops[j]? = some o' → i < j → clash (kOf A) (kOf B) = true → LL listed j = false := by
   intro j B o' hB ho' hij hcl
   cases hL : LL listed j with
   | false => rfl
   | true =>
    have h1 := chk_clash hc hA hB hij hcl
    have h2 := htp listed hI.down j o' ho' (hI.down j o' ho' hL) i h1
    rw [hLi] at h2;cases h2
  have hagree : ∀ r ∈ A.rs, stL (LL listed) 0 (As.map (·.ws)) S0 r = stL (fun j => decide (j < 0 + i)) 0 (As.map (·.ws)) S0 r := by
   intro r hr
   refine stL_congr _ 0 _ _ rfl (fun j W hW hm => ?_)
   obtain ⟨B,o',hB,rfl,ho'⟩ := hwsAt j W hW
   simp only [Nat.zero_add]
   rcases Nat.lt_trichotomy j i with h|h|h
   ·rw [show decide (j < i) = true from by simp [h]]
    have hcl : clash (kOf B) (kOf A) = true := by simp only [clash,kOf,hit_ok hm hr,Bool.true_or]
    exact htp listed hI.down i o ho hdir j (chk_clash hc hB hA h hcl)
   ·subst h;rw [hLi]; simp
   ·rw [show decide (j < i) = false from by simp; omega]
    exact hlater j B o' hB ho' h (by simp only [clash,kOf,hit_ok hr hm,Bool.or_true])
  have hnew : stL (LL (listed.setIfInBounds i true)) 0 (As.map (·.ws)) S0 = ov (stL (LL listed) 0 (As.map (·.ws)) S0) A.ws := by
   funext r
   by_cases hm : r ∈ keys A.ws
   ·refine stL_last _ 0 i A.ws _ _ (by simp [hA]) hm (by rw [LL_set _ _ _ hils]; simp) (fun j W hij hW hm' => ?_)
    obtain ⟨B,o',hB,rfl,ho'⟩ := hwsAt j W hW
    rw [LL_set _ _ _ hils,Nat.zero_add,hlater j B o' hB ho' hij (by simp only [clash,kOf,hit_ok hm hm',Bool.or_true,Bool.true_or])]
    have hb : Nat.beq j i = false := by
     cases hb : Nat.beq j i with
     | false => rfl
     | true => have := Nat.eq_of_beq_eq_true hb;omega
    rw [hb]; rfl
   ·rw [ov_not _ _ hm]
    refine stL_congr _ 0 _ _ rfl (fun j W hW hm' => ?_)
    obtain ⟨B,o',hB,rfl,ho'⟩ := hwsAt j W hW
    rw [LL_set _ _ _ hils,Nat.zero_add]
    have : j ≠ i := fun e => by subst e;rw [hA] at hB;cases hB;exact hm hm'
    simp [this]
  have hgo := hop C ι _ _ a w hCN hagree (fun id h1 h2 => .inr ⟨i, A, hA, hLi, h1, h2⟩) g gh (wpAny P .any ops.toArray QQ fuel (listed.setIfInBounds i true)) QQ (fun ι' a' w' g' gh' => by
   refine ih _ a' w' ?_ ⟨by simp [hI.sz],fun j o' ho' hL m hm => ?_,ι',by rw [hnew]; exact g',?_⟩
   ·rw [Array.toList_setIfInBounds, List.count_set (by simpa using hils)]
    have hci : (listed.toList[i]'(by simpa using hils) == false) = true := by
     simp only [LL,Array.getD_eq_getD_getElem?] at hLi
     rw [Array.getElem?_eq_getElem hils] at hLi
     simpa using hLi
    rw [hci]
    have : (true == false) = false := rfl
    rw [this]
    simp only [if_true,Bool.false_eq_true,if_false]
    omega
   ·rw [LL_set _ _ _ hils] at hL ⊢
    simp only [Bool.or_eq_true] at hL ⊢
    rcases hL with hL|hL
    ·exact .inl (hI.down j o' ho' hL m hm)
    ·have := Nat.eq_of_beq_eq_true hL
     subst this
     rw [ho] at ho'; cases ho'
     exact .inl (hdir m hm)
   ·rw [hnew]
    obtain ⟨gh2, _⟩ := gh'.less (F' := fun id => E id ∨ ∃ (j : Nat) (A : Acn), As[j]? = some A ∧ LL (listed.setIfInBounds i true) j = false ∧ A.f0 ≤ id ∧ id < A.f1) (H' := hOf (ov (stL (LL listed) 0 (As.map (·.ws)) S0) A.ws)) (fun _ _ h => h) (by
     rintro id (h | ⟨j,B,hB,hL,h1,h2⟩)
     ·exact ⟨.inl h,by have := hE id h;omega⟩
     ·rw [LL_set _ _ _ hils] at hL
      simp only [Bool.or_eq_false_iff] at hL
      refine ⟨.inr ⟨j,B,hB,hL.1,h1,h2⟩,?_⟩
      have hne : j ≠ i := fun e => by subst e;simp at hL
      rcases Nat.lt_or_gt_of_ne hne with h|h
      ·have := tr.apart j i B A hB hA h;omega
      ·have := tr.apart i j A B hA hB h;omega)
    exact gh2)
  simp only [wpOp,List.getElem?_toArray,ho]
  split
  ·rename_i hw
   rw [if_pos hw] at hgo
   exact .inl hgo
  ·rename_i hw
   rw [if_neg hw] at hgo
   exact hgo
end
end Go.AL
