/-
 A part of the proofs over this program: rules and contracts of its functions (the rules).
-/
import Derived.Test.YtahdccneecdmmaaGreatQ6A07
import Derived.MapKept
import Derived.Orders
set_option linter.unusedVariables false
set_option linter.unusedSimpArgs false
namespace Go.AL
open Go.RowKit
theorem OG:∀ {l:List Tg}{a b:Tg},(l.map (·.id)).Nodup → a ∈ l → b ∈ l → a.id = b.id → a = b
 | [],_,_,_,h,_,_ => by cases h
 | t :: l, a, b, hn, ha, hb, e => by
  rw [List.map_cons,List.nodup_cons] at hn
  rcases List.mem_cons.1 ha with q|ha'
  ·rcases List.mem_cons.1 hb with q' | hb'
   ·rw [q,q']
   ·exact absurd (List.mem_map.2 ⟨b,hb',by rw [← e,q]⟩) hn.1
  ·rcases List.mem_cons.1 hb with q' | hb'
   ·exact absurd (List.mem_map.2 ⟨a,ha',by rw [e,q']⟩) hn.1
   ·exact OG hn.2 ha' hb' e
theorem vG {stk:List Tg}{t:Tg}(hn:(stk.map (·.id)).Nodup) (h:t ∈ stk):0 ≤ b8 stk t.id ∧ (b8 stk t.id).toNat < stk.length ∧ stk[(b8 stk t.id).toNat]! = t:=by
 have h0 : 0 ≤ b8 stk t.id := by
  apply Classical.byContradiction;intro q
  exact nU.1 (by omega : b8 stk t.id < 0) t h rfl
 have hb := dY stk t.id
 have hk : (b8 stk t.id).toNat < stk.length := by omega
 exact ⟨h0,hk,OG hn (aU _ _ hk) h (EP h0)⟩
theorem Fj {a b:Tg}{l:List Tg}(h:[a,b].Sublist l):a ∈ l ∧ b ∈ l := ⟨h.subset (by simp),h.subset (by simp)⟩
theorem QK {a b:Tg}{l:List Tg}(hn:(l.map (·.id)).Nodup) (h:[a,b].Sublist l):a.id ≠ b.id:=by
 have := (h.map (·.id)).nodup hn
 simpa using this
theorem Nj {a b:Tg}{l:List Tg}(hn:(l.map (·.id)).Nodup) (hl:0 < l.length) (h:[a,b].Sublist l):b ≠ l[0]!:=by
 cases l with
 | nil => cases h
 | cons t l =>
  intro q
  have e : (t :: l)[0]! = t := rfl
  rw [e] at q
  rw [q] at h
  rw [List.map_cons,List.nodup_cons] at hn
  have ht : t ∉ l := fun q => hn.1 (List.mem_map.2 ⟨t,q,rfl⟩)
  cases h with
  | cons _ h => exact ht (h.subset (by simp))
  | cons_cons _ h => exact ht (h.subset (by simp))
theorem Mh {b:Tg}{l:List Tg}(h:b ∈ l) (hne:b ≠ l[0]!):[l[0]!,b].Sublist l:=by
 cases l with
 | nil => cases h
 | cons t l =>
  have e : (t :: l)[0]! = t := rfl
  rw [e] at hne ⊢
  rcases List.mem_cons.1 h with h|h
  ·exact absurd h hne
  ·exact (List.singleton_sublist.2 h).cons_cons t
theorem G3 {stk:List Tg}{k:Nat}{wr:Bool}(hk:k < stk.length){t:Tg}(h:t ∈ stk) (hn:t ∉ eZ stk k wr):[stk[k]!,t].Sublist stk ∧ (wr = false → t.uq = true):=by
 have ht : t ∉ stk.take (k + 1) := fun q => hn (by unfold eZ;split;exact q;exact List.mem_append_left _ q)
 have hd : t ∈ stk.drop (k + 1) := by
  rw [← List.take_append_drop (k + 1) stk] at h
  exact (List.mem_append.1 h).resolve_left ht
 refine ⟨?_,fun hw => ?_⟩
 ·have h1 : [stk[k]!].Sublist (stk.take (k + 1)) := List.singleton_sublist.2 (by rw [bE _ _ hk]; simp)
  have h2 := h1.append (List.singleton_sublist.2 hd)
  rwa [List.take_append_drop] at h2
 ·apply Classical.byContradiction; intro q
  apply hn
  unfold eZ
  rw [if_neg (by rw [hw]; decide)]
  exact List.mem_append_right _ (List.mem_filter.2 ⟨hd,by simpa using q⟩)
theorem yR {stk:List Tg}{k:Nat}{wr:Bool}(hk:k < stk.length){t:Tg}(h:t ∈ eZ stk k wr) (hu:wr = false → t.uq = true):t = stk[k]! ∨ [t,stk[k]!].Sublist stk:=by
 have ht : t ∈ stk.take (k + 1) := by
  unfold eZ at h
  split at h
  ·exact h
  ·rename_i hw
   rcases List.mem_append.1 h with h|h
   ·exact h
   ·have h1 := (List.mem_filter.1 h).2
    rw [hu (by simpa using hw)] at h1;cases h1
 have e := bE _ _ hk
 rw [e] at ht
 rcases List.mem_append.1 ht with ht|ht
 ·refine .inr (List.Sublist.trans ?_ (List.take_sublist (k + 1) stk))
  rw [e]
  exact (List.singleton_sublist.2 ht).append (List.Sublist.refl _)
 ·exact .inl (by simpa using ht)
theorem zK {a b t:Tg}{l:List Tg}(h:[a,b].Sublist (l ++ [t])):[a,b].Sublist l ∨ (b = t ∧ a ∈ l):=by
 obtain ⟨x,y,e,hx,hy⟩ := List.sublist_append_iff.1 h
 match x,e with
 | [], e =>
  have : y = [a,b] := by simpa using e.symm
  rw [this] at hy;have := hy.length_le;simp at this
 | [c], e =>
  have e' : a = c ∧ [b] = y := by simpa using e
  rw [← e'.2] at hy
  refine .inr ⟨by simpa using hy.subset (List.mem_singleton_self b),?_⟩
  rw [e'.1]; exact hx.subset (by simp)
 | [c, d], e =>
  have e' : a = c ∧ b = d := by simp at e;exact ⟨e.1,e.2.1⟩
  rw [e'.1,e'.2]; exact .inl hx
 | c :: d :: f :: z,e => simp at e
abbrev Ut (a b : Tg) : Prop := b.uq = true → a.uq = true
structure Sh (N : Int) (c : Cl) : Prop where
 n : c.next ≤ N
 l : (c.stk.length : Int) ≤ c.next
 p : c.stk.Pairwise Ut
def ShM (N : Int) (m : List Cl) : Prop := ∀ c ∈ m,Sh N c
theorem Sh.two {N:Int}{c:Cl}(h:Sh N c){a b:Tg}(hs:[a,b].Sublist c.stk) (hb:b.uq = true):a.uq = true:=by
 have := h.p.sublist hs
 simp only [List.pairwise_cons,List.mem_singleton,forall_eq] at this
 exact this.1 hb
theorem Sh.mono {N N':Int}{c:Cl}(h:Sh N c) (hN:N ≤ N'):Sh N' c := ⟨Int.le_trans h.n hN,h.l,h.p⟩
theorem ShM.mono {N N':Int}{m:List Cl}(h:ShM N m) (hN:N ≤ N'):ShM N' m := fun c hc => (h c hc).mono hN
theorem Sh.tch {N:Int}{c:Cl}(h:Sh N c) (x:Pt) (wr:Bool):Sh N (iS c x wr):=by
 have hs := tchS_sub (stk := c.stk) (k := (b8 c.stk x.tag).toNat) (wr := wr)
 refine ⟨h.n,?_,h.p.sublist hs⟩
 have h1 := hs.length_le
 have h2 := h.l
 show ((eZ c.stk _ wr).length : Int) ≤ c.next
 omega
theorem ShM.set {N:Int}{m:List Cl}(h:ShM N m){k:Nat}{c:Cl}(hc:Sh N c):ShM N (m.set k c) :=
 fun x hx => (List.mem_or_eq_of_mem_set hx).elim (h x) (fun e => e ▸ hc)
theorem ShM.at {N:Int}{m:List Cl}(h:ShM N m){k:Nat}(hk:k < m.length):Sh N m[k]! := h _ (aU _ _ hk)
theorem ShM.tch {N:Int}{m:List Cl}(h:ShM N m) (x:Pt) (wr:Bool):ShM N (cO m x wr):=by
 unfold cO;split
 ·rename_i hk;exact h.set ((h.at (dK hk).2.2).tch x wr)
 ·exact h
theorem ShM.fr {N:Int}{m:List Cl}(h:ShM N m) (x:Pt):ShM N (gY m x):=by
 unfold gY;split
 ·rename_i hk
  have h1 := (h.at (dK hk).2.2).tch x true
  exact h.set ⟨h1.n,h1.l,h1.p⟩
 ·exact h
theorem ShM.wr {N:Int}{m:List Cl}(h:ShM N m) (x:Pt) (v:Int):ShM N (pI m x v):=by
 unfold pI
 by_cases hk : qC m x v = 0
 ·rw [if_pos hk]
  unfold qC at hk
  by_cases hv : 0 ≤ v ∧ v ≤ 9
  ·rw [if_pos hv] at hk
   have h1 := (h.at (dK hk).2.2).tch x true
   exact h.set ⟨h1.n,h1.l,h1.p⟩
  ·rw [if_neg hv] at hk;cases hk
 ·rw [if_neg hk]; exact h
theorem ShM.nw {N:Int}{m:List Cl}(h:ShM N m) (hN:1 ≤ N) (v:Int):ShM N (m ++ [o9 v]) := fun c hc =>
 (List.mem_append.1 hc).elim (h c) (fun h => by
  rw [List.mem_singleton.1 h]
  exact ⟨hN,by show ((1 : Nat) : Int) ≤ 1;decide,by simp [o9]⟩)
theorem I1 {m:List Cl}{x:Pt}{wr:Bool}(h:a7 m x wr = 0):m[x.cell.toNat]!.alive = true ∧ 0 ≤ b8 m[x.cell.toNat]!.stk x.tag ∧ (wr = true → m[x.cell.toNat]!.stk[(b8 m[x.cell.toNat]!.stk x.tag).toNat]!.uq = true):=by
 unfold a7 at h
 split at h
 ·cases h
 split at h
 ·cases h
 rename_i ha
 split at h
 ·cases h
 rename_i ht
 split at h
 ·cases h
 rename_i hw
 refine ⟨by simpa using ha,by omega,fun e => ?_⟩
 simpa [e] using hw
theorem ShM.ln {N:Int}{m:List Cl}(h:ShM N m) (x:Pt) (u:Bool):ShM (N + 1) (j9 m x u):=by
 unfold j9
 by_cases hk : kZ m x u = 0
 ·rw [if_pos hk]
  have h0 := mF hk
  have hx := dK h0
  have ht := I1 h0
  have hc := (h.at hx.2.2)
  have h1 := hc.tch x u
  have hb := dY m[x.cell.toNat]!.stk x.tag
  refine ShM.set (h.mono (by omega)) (Sh.mk ?_ ?_ ?_)
  ·have := h1.n;show (iS m[x.cell.toNat]! x u).next + 1 ≤ N + 1;omega
  ·have := h1.l; show (((iS m[x.cell.toNat]! x u).stk ++ [_]).length : Int) ≤ (iS m[x.cell.toNat]! x u).next + 1
   rw [List.length_append,List.length_singleton]; omega
  ·show ((iS m[x.cell.toNat]! x u).stk ++ [(⟨(iS m[x.cell.toNat]! x u).next, u⟩ : Tg)]).Pairwise Ut
   rw [List.pairwise_append]
   refine ⟨h1.p,by simp,fun a ha b hb' => ?_⟩
   rw [List.mem_singleton.1 hb']
   intro hu
   dsimp only at hu
   subst hu
   have hw := ht.2.2 rfl
   have hkk : (b8 m[x.cell.toNat]!.stk x.tag).toNat < m[x.cell.toNat]!.stk.length := by omega
   have ha' : a ∈ eZ m[x.cell.toNat]!.stk (b8 m[x.cell.toNat]!.stk x.tag).toNat true := ha
   rcases yR hkk ha' (fun q => by cases q) with e|e
   ·rw [e]; exact hw
   ·exact hc.two e hw
 ·rw [if_neg hk]; exact h.mono (by omega)
theorem v7 {m:List Cl}{x:Pt}{wr:Bool}(hk:a7 m x wr = 0) (c:Nat):(cO m x wr)[c]! = if x.cell.toNat = c then iS m[c]! x wr else m[c]!:=by
 have h := dK hk
 unfold cO
 rw [if_pos hk,aP]
 by_cases q : x.cell.toNat = c
 ·rw [if_pos ⟨q,by omega⟩,if_pos q,q]
 ·rw [if_neg (fun h => q h.1),if_neg q]
theorem OM {m:List Cl}{x:Pt}(hk:a7 m x true = 0) (c:Nat) (hc:x.cell.toNat ≠ c):(gY m x)[c]! = m[c]!:=by
 unfold gY
 rw [if_pos hk,aP,if_neg (fun h => hc h.1)]
theorem EX {m:List Cl}{x:Pt}{u:Bool}(hk:kZ m x u = 0) (c:Nat):(j9 m x u)[c]! = if x.cell.toNat = c then psh (iS m[c]! x u) u else m[c]!:=by
 have h := dK (mF hk)
 unfold j9
 rw [if_pos hk,aP]
 by_cases q : x.cell.toNat = c
 ·rw [if_pos ⟨q,by omega⟩,if_pos q,q]
 ·rw [if_neg (fun h => q h.1),if_neg q]
theorem II {m:List Cl}{x:Pt}{v:Int}(hk:qC m x v = 0):a7 m x true = 0:=by
 unfold qC at hk
 split at hk
 ·exact hk
 ·cases hk
theorem RD {m:List Cl}{x:Pt}{v:Int}(hk:qC m x v = 0) (c:Nat):(pI m x v)[c]!.alive = (cO m x true)[c]!.alive ∧ (pI m x v)[c]!.stk = (cO m x true)[c]!.stk:=by
 have h0 := II hk
 have h := dK h0
 rw [v7 h0]
 unfold pI
 rw [if_pos hk,aP]
 by_cases q : x.cell.toNat = c
 ·rw [if_pos ⟨q,by omega⟩,if_pos q,q]; exact ⟨rfl,rfl⟩
 ·rw [if_neg (fun h => q h.1),if_neg q]; exact ⟨rfl,rfl⟩
def jE (ts : List Int) (sl : List Sl) (v : Nat) : Tg := ⟨sl[v]!.ptr.tag,!decide (ts[v]! = 3)⟩
def fY (sl : List Sl) (v : Nat) : Nat := sl[v]!.ptr.cell.toNat
structure RfI (ts : List Int) (P : Nat → Prop) (G : Nat → Nat → Prop) (sl : List Sl) (m : List Cl) : Prop where
 l : ∀ v,v < ts.length → 3 ≤ ts[v]! → sl[v]!.set = true → P v → m[fY sl v]!.alive = true ∧ jE ts sl v ∈ m[fY sl v]!.stk
 c : ∀ v w,v < ts.length → w < ts.length → 3 ≤ ts[v]! → (ts[w]! = 2 ∨ ts[w]! = 4) → sl[v]!.set = true → sl[w]!.set = true → P v → fY sl v = fY sl w → [jE ts sl w,jE ts sl v].Sublist m[fY sl v]!.stk → G v w
section
variable {ts : List Int} {P P' : Nat → Prop} {G : Nat → Nat → Prop} {sl : List Sl} {m m' : List Cl} {N : Int}
theorem RfI.mono (R:RfI ts P G sl m) (h:∀ v,P' v → P v):RfI ts P' G sl m :=
 ⟨fun v h1 h2 h3 h4 => R.l v h1 h2 h3 (h v h4),fun v w h1 h2 h3 h4 h5 h6 h7 => R.c v w h1 h2 h3 h4 h5 h6 (h v h7)⟩
theorem RfI.cong (R:RfI ts P G sl m) (h:∀ c:Nat,m'[c]!.alive = m[c]!.alive ∧ m'[c]!.stk = m[c]!.stk):RfI ts P G sl m':=by
 refine ⟨fun v h1 h2 h3 h4 => ?_,fun v w h1 h2 h3 h4 h5 h6 h7 h8 h9 => ?_⟩
 ·rw [(h _).1,(h _).2]; exact R.l v h1 h2 h3 h4
 ·rw [(h _).2] at h9;exact R.c v w h1 h2 h3 h4 h5 h6 h7 h8 h9
theorem RfI.tch (hT:∀ v,v < ts.length → ts[v]! ≤ 4) (hm:OkM m) (hs:ShM N m) (R:RfI ts P G sl m) (hP:∀ v,P' v → P v){u:Nat}{wr:Bool}(hu:u < ts.length) (h2:2 ≤ ts[u]!) (hset:sl[u]!.set = true)
  (hk : a7 m sl[u]!.ptr wr = 0) (hin : jE ts sl u ∈ m[fY sl u]!.stk) (hwr : wr = true → ts[u]! ≠ 3) (hc : ∀ v,P' v → G v u → ¬ (wr = true ∨ ts[v]! = 4)) : RfI ts P' G sl (cO m sl[u]!.ptr wr) := by
 have hx := dK hk
 have hcc := hm.at hx.2.2
 obtain ⟨t1,t2,t3⟩ := vG hcc.d hin
 refine ⟨fun v h1 h2' h3 h4 => ?_,fun v w h1 h2' h3 h4 h5 h6 h7 h8 h9 => ?_⟩
 ·obtain ⟨a1, a2⟩ := R.l v h1 h2' h3 (hP v h4)
  rw [v7 hk]
  by_cases q : sl[u]!.ptr.cell.toNat = fY sl v
  ·rw [if_pos q]
   refine ⟨a1,?_⟩
   rw [← q] at a2 ⊢
   apply Classical.byContradiction;intro hn
   have hn' : jE ts sl v ∉ eZ m[sl[u]!.ptr.cell.toNat]!.stk (b8 m[sl[u]!.ptr.cell.toNat]!.stk (jE ts sl u).id).toNat wr := hn
   obtain ⟨g1,g2⟩ := G3 t2 a2 hn'
   have t3' : m[sl[u]!.ptr.cell.toNat]!.stk[(b8 m[sl[u]!.ptr.cell.toNat]!.stk (jE ts sl u).id).toNat]! = jE ts sl u := t3
   rw [t3'] at g1
   by_cases q3 : ts[u]! = 3
   ·have hwf : wr = false := by cases wr with | false => rfl | true => exact absurd q3 (hwr rfl)
    have := (hs.at hx.2.2).two g1 (g2 hwf)
    simp [jE,q3] at this
   ·have hb := hT u hu
    have hg := R.c v u h1 hu h2' (by omega) h3 hset (hP v h4) q.symm (by rw [← q]; exact g1)
    refine hc v h4 hg ?_
    cases hw : wr with
    | true => exact .inl rfl
    | false =>
     have h5 := g2 hw
     have hb' := hT v h1
     have : ts[v]! ≠ 3 := by simpa [jE] using h5
     exact .inr (by omega)
  ·rw [if_neg q]; exact ⟨a1,a2⟩
 ·refine R.c v w h1 h2' h3 h4 h5 h6 (hP v h7) h8 (h9.trans ?_)
  rw [v7 hk]
  split
  ·exact tchS_sub
  ·exact List.Sublist.refl _
theorem RfI.fr (hd:Hd m) (R:RfI ts P G sl m) (hP:∀ v,P' v → P v) (hf:∀ v,v < ts.length → 3 ≤ ts[v]! → sl[v]!.set = true → 1 ≤ sl[v]!.ptr.tag){u:Nat}(hu:u < ts.length) (h2:ts[u]! = 2) (hset:sl[u]!.set = true)
  (hk : a7 m sl[u]!.ptr true = 0) (h0 : sl[u]!.ptr.tag = 0) (hc : ∀ v,P' v → ¬ G v u) : RfI ts P' G sl (gY m sl[u]!.ptr) := by
 have hx := dK hk
 have e0 := hd _ hx.2.2
 have eu : jE ts sl u = ⟨0,true⟩ := by unfold jE;rw [h0,h2]; rfl
 have key : ∀ v, v < ts.length → 3 ≤ ts[v]! → sl[v]!.set = true → P' v → sl[u]!.ptr.cell.toNat ≠ fY sl v := fun v h1 h2' h3 h4 q => by
  obtain ⟨a1,a2⟩ := R.l v h1 h2' h3 (hP v h4)
  have hne : jE ts sl v ≠ m[fY sl v]!.stk[0]! := by
   rw [← q,e0]; intro e
   have e1 : (jE ts sl v).id = 0 := by rw [e]
   have e2 : sl[v]!.ptr.tag = 0 := e1
   have e3 := hf v h1 h2' h3
   omega
  have hs := Mh a2 hne
  refine hc v h4 (R.c v u h1 hu h2' (.inl h2) h3 hset (hP v h4) q.symm ?_)
  rw [eu,← e0,show sl[u]!.ptr.cell.toNat = fY sl v from q]; exact hs
 refine ⟨fun v h1 h2' h3 h4 => ?_,fun v w h1 h2' h3 h4 h5 h6 h7 h8 h9 => ?_⟩
 ·rw [OM hk _ (key v h1 h2' h3 h4)]; exact R.l v h1 h2' h3 (hP v h4)
 ·rw [OM hk _ (key v h1 h3 h5 h7)] at h9;exact R.c v w h1 h2' h3 h4 h5 h6 (hP v h7) h8 h9
theorem RfI.ln {x:Pt}{b:Bool}(hk:kZ m x b = 0) (R:RfI ts P G sl (cO m x b)) (hf:∀ v,v < ts.length → 3 ≤ ts[v]! → sl[v]!.set = true → sl[v]!.ptr.tag < m[fY sl v]!.next):RfI ts P G sl (j9 m x b):=by
 have h0 := mF hk
 refine ⟨fun v h1 h2 h3 h4 => ?_,fun v w h1 h2 h3 h4 h5 h6 h7 h8 h9 => ?_⟩
 ·have hr := R.l v h1 h2 h3 h4
  rw [v7 h0] at hr
  rw [EX hk]
  split
  ·rename_i q
   rw [if_pos q] at hr
   exact ⟨hr.1,List.mem_append_left _ hr.2⟩
  ·rename_i q
   rw [if_neg q] at hr;exact hr
 ·refine R.c v w h1 h2 h3 h4 h5 h6 h7 h8 ?_
  rw [EX hk] at h9
  rw [v7 h0]
  split at h9
  ·rename_i q
   rw [if_pos q]
   have h9' : [jE ts sl w,jE ts sl v].Sublist ((iS m[fY sl v]! x b).stk ++ [⟨m[fY sl v]!.next,b⟩]) := h9
   rcases zK h9' with e | ⟨e,_⟩
   ·exact e
   ·exfalso
    have e1 : (jE ts sl v).id = m[fY sl v]!.next := by rw [e]
    have e2 : sl[v]!.ptr.tag = m[fY sl v]!.next := e1
    have := hf v h1 h3 h5
    omega
  ·rename_i q
   rw [if_neg q]; exact h9
theorem RfI.nw (R:RfI ts P G sl m) (hf:∀ v,v < ts.length → 3 ≤ ts[v]! → sl[v]!.set = true → fY sl v < m.length) (z:Cl):RfI ts P G sl (m ++ [z]):=by
 refine ⟨fun v h1 h2 h3 h4 => ?_,fun v w h1 h2 h3 h4 h5 h6 h7 h8 h9 => ?_⟩
 ·rw [oW (hf v h1 h2 h3)]; exact R.l v h1 h2 h3 h4
 ·rw [oW (hf v h1 h3 h5)] at h9;exact R.c v w h1 h2 h3 h4 h5 h6 h7 h8 h9
end
def Ac (ts : List Int) (pts : List Pnt) (a w : Nat) (wr : Bool) : Prop :=
 ((pts[a]!.op = 4 ∨ pts[a]!.op = 6) ∧ pts[a]!.y = (w : Int) ∧ wr = false) ∨ (pts[a]!.op = 5 ∧ pts[a]!.y = (w : Int) ∧ wr = true) ∨ ((pts[a]!.op = 7 ∨ pts[a]!.op = 8) ∧ pts[a]!.x = (w : Int) ∧ wr = true) ∨
 (pts[a]!.op = 3 ∧ w9 ts[w]! = true ∧ pts[a]!.y = (w : Int) ∧ wr = true) ∨ (aM pts[a]! = (w : Int) ∧ ts[w]! = 2 ∧ Mb ts pts (a,w) ∧ wr = true)
def Ln (ts : List Int) (pts : List Pnt) (a v w : Nat) : Prop := ∃ L,H4 ts pts (a,v,L) ∧ LJ ts pts (a,L) ∧ pts[L]!.y = (w : Int) ∧ (ts[v]! = 4 → pts[L]!.op = 5)
def Kp (ts : List Int) (pts : List Pnt) (a v : Nat) : Prop := Lv ts pts a v ∧ aM pts[a]! ≠ (v : Int) ∧ aQ ts pts[a]! v ≠ 2
def Cf (ts : List Int) (pts : List Pnt) (a L : Nat) : Prop := ∃ v w wr,Kp ts pts a v ∧ Ac ts pts a w wr ∧ H4 ts pts (a,v,L) ∧ LJ ts pts (a,L) ∧ pts[L]!.y = (w : Int) ∧ (wr = true ∨ pts[L]!.op = 5)
structure Bs (ts : List Int) (N : Int) (s : Mc) : Prop where
 w : Own ts s none
 i : ∀ v,v < ts.length → ts[v]! = 1 → 0 ≤ s.slots[v]!.num ∧ s.slots[v]!.num ≤ 9
 sm : ShM N s.cells
 f : ∀ v,v < ts.length → 3 ≤ ts[v]! → s.slots[v]!.set = true → 0 ≤ s.slots[v]!.ptr.cell ∧ s.slots[v]!.ptr.cell < s.cells.length ∧ 1 ≤ s.slots[v]!.ptr.tag ∧ s.slots[v]!.ptr.tag < s.cells[fY s.slots v]!.next
 d : ∀ v u,v < ts.length → u < ts.length → ts[v]! = 4 → ts[u]! = 4 → s.slots[v]!.set = true → s.slots[u]!.set = true → fY s.slots v = fY s.slots u → s.slots[v]!.ptr.tag = s.slots[u]!.ptr.tag → v = u
section
variable {ts : List Int} {pts : List Pnt} {N : Int} {a : Nat} {s : Mc}
theorem Kp.nd (w:WG ts pts){v:Nat}(h:Kp ts pts a v):Nd ts pts (a,v):=by
 obtain ⟨k,e,hk⟩ := h.1
 exact .step hk ⟨rfl,e,h.2.1⟩
theorem rH (hC:∀ L,¬ Cf ts pts a L){u:Nat}{wr:Bool}(hA:Ac ts pts a u wr):∀ v,Kp ts pts a v → Ln ts pts a v u → ¬ (wr = true ∨ ts[v]! = 4):=by
 rintro v hv ⟨L,h1,h2,h3,h4⟩ h
 exact hC L ⟨v,u,wr,hv,hA,h1,h2,h3,h.elim .inl (fun q => .inr (h4 q))⟩
theorem RfI.use (w:WG ts pts) (B:Bs ts N s) (R:RfI ts (fun v => Nd ts pts (a,v)) (Ln ts pts a) s.slots s.cells) (ha:a < pts.length) (hu:cA ts s pts[a]! = false){u:Nat}(hul:u < ts.length) (h2:2 ≤ ts[u]!) (huse:aQ ts pts[a]! u ≠ 0) :
  s.slots[u]!.set = true ∧ 0 ≤ s.slots[u]!.ptr.cell ∧ s.slots[u]!.ptr.cell < s.cells.length ∧ s.cells[fY s.slots u]!.alive = true ∧ jE ts s.slots u ∈ s.cells[fY s.slots u]!.stk := by
 have hset := iI hu hul huse
 by_cases q : ts[u]! = 2
 ·obtain ⟨b1, b2, b3, b4⟩ := B.w.o u hul q hset
  refine ⟨hset,b1,b2,b4,?_⟩
  have hc : fY s.slots u < s.cells.length := by unfold fY;omega
  have h0 := B.w.h _ hc
  have hl := (B.w.k.m.at hc).l
  have e : jE ts s.slots u = s.cells[fY s.slots u]!.stk[0]! := by rw [h0]; unfold jE;rw [b3,q]; rfl
  rw [e]; exact aU _ _ (by omega)
 ·obtain ⟨f1, f2, _⟩ := B.f u hul (by omega) hset
  obtain ⟨l1,l2⟩ := R.l u hul (by omega) hset (.base ⟨ha,hul,huse⟩)
  exact ⟨hset,f1,f2,l1,l2⟩
theorem PB {m:List Cl}(hm:OkM m){x:Pt}{b:Bool}{wr:Bool}(h1:0 ≤ x.cell ∧ x.cell < m.length) (h2:m[x.cell.toNat]!.alive = true) (h3:(⟨x.tag,b⟩:Tg) ∈ m[x.cell.toNat]!.stk) (hw:wr = true → b = true):a7 m x wr = 0:=by
 have hc := hm.at (k := x.cell.toNat) (by omega)
 obtain ⟨t1,t2,t3⟩ := vG hc.d h3
 dsimp only at t1 t3
 unfold a7
 rw [if_neg (fun q => q h1),if_neg (by rw [h2]; decide),if_neg (by omega),if_neg]
 rintro ⟨e1,e2⟩
 rw [t3] at e2
 dsimp only at e2
 rw [hw e1] at e2;cases e2
theorem RfI.code (w:WG ts pts) (B:Bs ts N s) (R:RfI ts (fun v => Nd ts pts (a,v)) (Ln ts pts a) s.slots s.cells) (ha:a < pts.length) (hu:cA ts s pts[a]! = false){u:Nat}(hul:u < ts.length) (h2:2 ≤ ts[u]!) (huse:aQ ts pts[a]! u ≠ 0){wr:Bool}(hw:wr = true → ts[u]! ≠ 3):a7 s.cells s.slots[u]!.ptr wr = 0:=by
 obtain ⟨h3,h4,h5,h6,h7⟩ := R.use w B ha hu hul h2 huse
 exact PB B.w.k.m ⟨h4,h5⟩ h6 h7 (fun e => by have := hw e;simpa using this)
end
section
variable {ts : List Int} {pts : List Pnt} {N : Int} {a k : Nat} {s : Mc}
theorem O2 {m:List Cl}(h:OkM m) (c:Nat):(m[c]!.stk.map (·.id)).Nodup:=by
 by_cases q : c < m.length
 ·exact (h.at q).d
 ·rw [getElem!_neg m c q]; exact List.nodup_nil
theorem Ln.step (he:cF pts a k){v w:Nat}(h:Ln ts pts a v w) (hv:aM pts[a]! ≠ (v:Int)) (hv2:aQ ts pts[a]! v ≠ 2) (hw:aM pts[a]! ≠ (w:Int)) (hw2:aQ ts pts[a]! w ≠ 2):Ln ts pts k v w:=by
 obtain ⟨L,h1,h2,h3,h4⟩ := h
 refine ⟨L,.step h1 ⟨rfl,he,.inl ⟨hv,rfl,hv2⟩⟩,.step h2 ⟨rfl,he,?_,?_⟩,h3,h4⟩
 ·rw [h3]; exact hw2
 ·rw [h3]; exact hw
theorem RfI.fin (he:cF pts a k){sl sl':List Sl}{m':List Cl}{y:Sl}(hm:OkM m') (hs:∀ v,v < ts.length → sl'[v]! = if aM pts[a]! = (v:Int) then y else if aQ ts pts[a]! v = 2 then gD else sl[v]!)
  (R : RfI ts (Kp ts pts a) (Ln ts pts a) sl m')
  (hX : ∀ v : Nat,aM pts[a]! = (v : Int) → v < ts.length → 3 ≤ ts[v]! → m'[fY sl' v]!.alive = true ∧ jE ts sl' v ∈ m'[fY sl' v]!.stk)
  (hXw : ∀ v w : Nat,aM pts[a]! = (v : Int) → v < ts.length → w < ts.length → 3 ≤ ts[v]! → (ts[w]! = 2 ∨ ts[w]! = 4) → aM pts[a]! ≠ (w : Int) → aQ ts pts[a]! w ≠ 2 → sl[w]!.set = true → sl'[w]! = sl[w]! → fY sl' v = fY sl' w → [jE ts sl' w,jE ts sl' v].Sublist m'[fY sl' v]!.stk → Ln ts pts k v w)
  (hvX : ∀ v w : Nat,aM pts[a]! = (w : Int) → v < ts.length → w < ts.length → 3 ≤ ts[v]! → (ts[w]! = 2 ∨ ts[w]! = 4) → Kp ts pts a v → sl[v]!.set = true → sl'[v]! = sl[v]! → fY sl' v = fY sl' w → ¬ [jE ts sl' w,jE ts sl' v].Sublist m'[fY sl' v]!.stk) :
  RfI ts (fun v => Nd ts pts (k,v)) (Ln ts pts k) sl' m' := by
 have old : ∀ v, v < ts.length → sl'[v]!.set = true → aM pts[a]! ≠ (v : Int) → aQ ts pts[a]! v ≠ 2 ∧ sl'[v]! = sl[v]! := fun v hv h1 h2 => by
  have e := hs v hv
  rw [if_neg h2] at e
  by_cases q : aQ ts pts[a]! v = 2
  ·rw [if_pos q] at e;rw [e] at h1;cases h1
  ·rw [if_neg q] at e;exact ⟨q,e⟩
 refine ⟨fun v h1 h2 h3 h4 => ?_,fun v w h1 h2 h3 h4 h5 h6 h7 h8 h9 => ?_⟩
 ·by_cases q : aM pts[a]! = (v : Int)
  ·exact hX v q h1 h2
  ·obtain ⟨q2, e⟩ := old v h1 h3 q
   have := R.l v h1 h2 (by rw [← e]; exact h3) ⟨⟨k,he,h4⟩,q,q2⟩
   unfold fY jE at this ⊢
   rw [e]; exact this
 ·by_cases q : aM pts[a]! = (v : Int)
  ·by_cases q' : aM pts[a]! = (w : Int)
   ·exfalso
    have e : v = w := by omega
    subst e
    exact QK (O2 hm _) h9 rfl
   ·obtain ⟨q2, e⟩ := old w h2 h6 q'
    exact hXw v w q h1 h2 h3 h4 q' q2 (by rw [← e]; exact h6) e h8 h9
  ·obtain ⟨q2, e⟩ := old v h1 h5 q
   have hk : Kp ts pts a v := ⟨⟨k,he,h7⟩,q,q2⟩
   by_cases q' : aM pts[a]! = (w : Int)
   ·exact absurd h9 (hvX v w q' h1 h2 h3 h4 hk (by rw [← e]; exact h5) e h8)
   ·obtain ⟨q3, e'⟩ := old w h2 h6 q'
    refine Ln.step he (R.c v w h1 h2 h3 h4 (by rw [← e]; exact h5) (by rw [← e']; exact h6) hk ?_ ?_) q q2 q' q3
    ·unfold fY at h8 ⊢; rw [e,e'] at h8;exact h8
    ·unfold fY jE at h9 ⊢; rw [e,e'] at h9;exact h9
theorem RfI.fin1 (he:cF pts a k){sl sl':List Sl}{m':List Cl}{y:Sl}(hm:OkM m') (hs:∀ v,v < ts.length → sl'[v]! = if aM pts[a]! = (v:Int) then y else if aQ ts pts[a]! v = 2 then gD else sl[v]!)
  (R : RfI ts (Kp ts pts a) (Ln ts pts a) sl m') (h1 : ∀ v : Nat,aM pts[a]! = (v : Int) → v < ts.length → ts[v]! = 1) : RfI ts (fun v => Nd ts pts (k,v)) (Ln ts pts k) sl' m' :=
 RfI.fin he hm hs R (fun v e hv h3 => by have := h1 v e hv;omega) (fun v w e hv _ h3 => by have := h1 v e hv;omega) (fun v w e _ hw _ h3 => by have := h1 w e hw;omega)
theorem qD (ts:List Int) (s:Mc) (v:Nat) (x:Sl):(bI ts s v x).1.cells = if ts[v]! = 2 ∧ s.slots[v]!.set = true then gY s.cells s.slots[v]!.ptr else s.cells:=by
 unfold bI;split <;> rfl
theorem RfI.put (V:Vs ts pts a s) (B:Bs ts N s){m:List Cl}(hm:OkM m) (hd:Hd m) (R:RfI ts (Kp ts pts a) (Ln ts pts a) s.slots m) (hl:s.cells.length ≤ m.length) (hal:∀ c,c < s.cells.length → m[c]!.alive = s.cells[c]!.alive) (hC:∀ L,¬ Cf ts pts a L){X:Nat}(hX:X < ts.length) (hset:aM pts[a]! = (X:Int)) :
  RfI ts (Kp ts pts a) (Ln ts pts a) s.slots (if ts[X]! = 2 ∧ s.slots[X]!.set = true then gY m s.slots[X]!.ptr else m) := by
 split
 ·rename_i q
  obtain ⟨b1,b2,b3,b4⟩ := B.w.o X hX q.1 q.2
  refine R.fr hd (fun _ h => h) (fun v h1 h2 h3 => (B.f v h1 h2 h3).2.2.1) hX q.1 q.2 (Jr hm hd ⟨b1,by omega⟩ b3 ?_ true) b3 fun v hv hg => ?_
  ·rw [hal _ (by omega)]; exact b4
  ·exact rH hC (.inr (.inr (.inr (.inr ⟨hset,q.1,V.m X hX q.2,rfl⟩)))) v hv hg (.inl rfl)
 ·exact R
end
section
variable {ts : List Int} {pts : List Pnt} {N : Int} {a k : Nat} {s : Mc}
theorem oY {x:Pnt}(h:1 ≤ x.op ∧ x.op ≤ 6):aM x = x.x := by unfold aM;rw [if_pos h]
theorem Ie {x:Pnt}(h:7 ≤ x.op):aM x = -1 := by unfold aM;rw [if_neg (by omega)]
theorem R6 {c:Int}(h:kP c = -1):c = 0:=by
 apply Classical.byContradiction;intro q
 unfold kP at h;rw [if_neg q] at h
 rcases p9 c with e|e <;> (rw [e] at h;cases h)
theorem tJ {c:Int}(h:eG c = -1):False := by rcases p9 c with e | e <;> (rw [e] at h;cases h)
theorem uD {x:Pnt}(h:x.op = 4 ∨ x.op = 5 ∨ x.op = 6){v:Nat}(hv:(v:Int) = x.y):aQ ts x v ≠ 0:=by
 unfold aQ;rw [if_neg (by omega),if_pos h,if_pos hv]; decide
theorem JC {x:Pnt}(h:x.op = 3){v:Nat}(hv:(v:Int) = x.y):aQ ts x v ≠ 0:=by
 unfold aQ;rw [if_pos h,if_pos hv]; split <;> decide
theorem PS {x:Pnt}(h:x.op = 3){v:Nat}(hv:(v:Int) = x.y) (ht:ts[v]! = 2 ∨ ts[v]! = 4):aQ ts x v = 2:=by
 unfold aQ;rw [if_pos h,if_pos hv]
 have e : (v : Int).toNat = v := by omega
 rw [e,if_pos ht]
theorem OH {x:Pnt}(h:x.op = 7){v:Nat}(hv:(v:Int) = x.x):aQ ts x v ≠ 0:=by
 unfold aQ;rw [if_neg (by omega),if_neg (by omega),if_pos h,if_pos hv]; decide
theorem Ov {x:Pnt}(h:x.op = 8){v:Nat}(hv:(v:Int) = x.x):aQ ts x v ≠ 0:=by
 unfold aQ;rw [if_neg (by omega),if_neg (by omega),if_neg (by omega),if_pos h,if_pos hv]; decide
theorem RfI.loan (w:WG ts pts) (A:WA ts pts) (he:cF pts a k) (B:Bs ts N s) (R:RfI ts (fun v => Nd ts pts (a,v)) (Ln ts pts a) s.slots s.cells) (hC:∀ L,¬ Cf ts pts a L) (hu:cA ts s pts[a]! = false)
  {wr : Bool} (h4 : pts[a]!.op = 4 ∧ wr = false ∨ pts[a]!.op = 5 ∧ wr = true) {sl' : List Sl} {y : Sl} (hs : ∀ v,v < ts.length → sl'[v]! = if aM pts[a]! = (v : Int) then y else if aQ ts pts[a]! v = 2 then gD else s.slots[v]!)
  (hk : kZ s.cells s.slots[pts[a]!.y.toNat]!.ptr wr = 0) (hy : y.ptr = qM s.cells s.slots[pts[a]!.y.toNat]!.ptr wr) :
  RfI ts (fun v => Nd ts pts (k,v)) (Ln ts pts k) sl' (j9 s.cells s.slots[pts[a]!.y.toNat]!.ptr wr) := by
 have ha := he.1
 have hT : ∀ v,v < ts.length → ts[v]! ≤ 4 := fun v hv => (w.ty v hv).2
 have PA := A.a a ha
 have hx := w.x a ha
 have hyb := w.y a ha
 have hyl : pts[a]!.y.toNat < ts.length := by have := hyb.2 (by omega) (by omega);omega
 have hyn : ((pts[a]!.y.toNat : Nat) : Int) = pts[a]!.y := by omega
 have hxn : ((pts[a]!.x.toNat : Nat) : Int) = pts[a]!.x := by omega
 have hst := oY (x := pts[a]!) (by omega)
 have hty : 2 ≤ ts[pts[a]!.y.toNat]! := by
  rcases h4 with ⟨h,_⟩ | ⟨h,_⟩
  ·exact (PA.t4 h).2.2
  ·have := (PA.t5 h).2.2;omega
 have hne : pts[a]!.x ≠ pts[a]!.y := by
  rcases h4 with ⟨h,_⟩ | ⟨h,_⟩
  ·exact (PA.t4 h).2.1
  ·exact (PA.t5 h).2.1
 have huse : aQ ts pts[a]! (pts[a]!.y.toNat : Nat) ≠ 0 := uD (by omega) hyn
 obtain ⟨q1,q2,q3,q4,q5⟩ := R.use w B ha hu hyl hty huse
 have hwr : wr = true → ts[pts[a]!.y.toNat]! ≠ 3 := fun e => by
  rcases h4 with ⟨_,h⟩ | ⟨h,_⟩
  ·rw [e] at h;cases h
  ·have := (PA.t5 h).2.2;omega
 have hAc : Ac ts pts a pts[a]!.y.toNat wr := by
  rcases h4 with ⟨h,e⟩ | ⟨h,e⟩
  ·exact .inl ⟨.inl h,hyn.symm,e⟩
  ·exact .inr (.inl ⟨h,hyn.symm,e⟩)
 have htx : ∀ v : Nat, aM pts[a]! = (v : Int) → ts[v]! = 3 ∧ wr = false ∨ ts[v]! = 4 ∧ wr = true ∧ pts[a]!.op = 5 := fun v e => by
  have e' : pts[a]!.x.toNat = v := by rw [← hst,e]; omega
  rcases h4 with ⟨h,e2⟩ | ⟨h,e2⟩
  ·have := (PA.t4 h).1;rw [e'] at this;exact .inl ⟨this,e2⟩
  ·have := (PA.t5 h).1;rw [e'] at this;exact .inr ⟨this,e2,h⟩
 have hnt : ∀ v : Nat, aQ ts pts[a]! v ≠ 2 := fun v => by
  unfold aQ;rw [if_neg (by omega),if_pos (by omega)]; split <;> decide
 generalize hY : pts[a]!.y.toNat = Y at *
 have h0 := mF hk
 have hx0 := dK h0
 have hcY := B.w.k.m.at hx0.2.2
 obtain ⟨t1,t2,t3⟩ := vG hcY.d q5
 have R1 := R.tch hT B.w.k.m B.sm (fun v (h : Kp ts pts a v) => h.nd w) hyl hty q1 h0 q5 hwr (rH hC hAc)
 have R2 := R1.ln hk (fun v h1 h2 h3 => (B.f v h1 h2 h3).2.2.2)
 have hyp : y.ptr = ⟨s.slots[Y]!.ptr.cell,s.cells[s.slots[Y]!.ptr.cell.toNat]!.next⟩ := by rw [hy]; unfold qM;rw [if_pos hk]
 have new : ∀ v : Nat, aM pts[a]! = (v : Int) → v < ts.length → fY sl' v = s.slots[Y]!.ptr.cell.toNat ∧ jE ts sl' v = ⟨s.cells[s.slots[Y]!.ptr.cell.toNat]!.next, wr⟩ := fun v e hv => by
  have e1 := hs v hv
  rw [if_pos e] at e1
  unfold fY jE
  rw [e1,hyp]
  refine ⟨rfl,?_⟩
  rcases htx v e with ⟨h,e2⟩ | ⟨h,e2,_⟩ <;> (rw [h,e2]; rfl)
 have frs : ∀ t ∈ (iS s.cells[s.slots[Y]!.ptr.cell.toNat]! s.slots[Y]!.ptr wr).stk,t.id < s.cells[s.slots[Y]!.ptr.cell.toNat]!.next := fun t ht => (hcY.i t (tchS_sub.subset ht)).2
 have hat := EX hk s.slots[Y]!.ptr.cell.toNat
 rw [if_pos rfl] at hat
 refine RfI.fin he (B.w.k.m.ln _ _) hs R2 (fun v e hv h3 => ?_) (fun v u e hv hul h3 hut hu1 hu2 hu3 hu4 hce hsub => ?_) (fun v u e hv hul h3 hut hkp hv3 hv4 hce hsub => ?_)
 ·obtain ⟨n1, n2⟩ := new v e hv
  rw [n1,n2,hat]
  exact ⟨q4,List.mem_append_right _ (List.mem_singleton_self _)⟩
 ·obtain ⟨n1, n2⟩ := new v e hv
  rw [n1,n2,hat] at hsub
  have hceu : fY s.slots u = s.slots[Y]!.ptr.cell.toNat := by rw [← n1,hce]; unfold fY;rw [hu4]
  have htu : jE ts sl' u = jE ts s.slots u := by unfold jE;rw [hu4]
  rw [htu] at hsub
  have hsub' : [jE ts s.slots u,⟨s.cells[s.slots[Y]!.ptr.cell.toNat]!.next,wr⟩].Sublist ((iS s.cells[s.slots[Y]!.ptr.cell.toNat]! s.slots[Y]!.ptr wr).stk ++ [⟨s.cells[s.slots[Y]!.ptr.cell.toNat]!.next,wr⟩]) := hsub
  rcases zK hsub' with e2 | ⟨_,hin⟩
  ·have := frs _ (Fj e2).2
   dsimp only at this;omega
  ·have huq : (jE ts s.slots u).uq = true := by
    unfold jE;dsimp only
    rcases hut with h|h <;> (rw [h]; rfl)
   have t3' : s.cells[s.slots[Y]!.ptr.cell.toNat]!.stk[(b8 s.cells[s.slots[Y]!.ptr.cell.toNat]!.stk s.slots[Y]!.ptr.tag).toNat]! = jE ts s.slots Y := t3
   rcases yR t2 hin (fun _ => huq) with e2|e2
   ·rw [t3] at e2
    have eid : s.slots[u]!.ptr.tag = s.slots[Y]!.ptr.tag := by
     have : (jE ts s.slots u).id = (jE ts s.slots Y).id := by rw [e2]
     exact this
    have hY3 : ts[Y]! ≠ 3 := fun q => by
     rw [e2] at huq
     unfold jE at huq;dsimp only at huq;rw [q] at huq;cases huq
    have hTY := hT Y hyl
    have euY : u = Y := by
     by_cases qY : ts[Y]! = 2
     ·obtain ⟨b1, b2, b3, b4⟩ := B.w.o Y hyl qY q1
      rcases hut with hut|hut
      ·obtain ⟨c1, c2, c3, c4⟩ := B.w.o u hul hut hu3
       exact B.w.d u Y hul hyl hut qY hu3 q1 (by unfold fY at hceu;omega)
      ·have := (B.f u hul (by omega) hu3).2.2.1;omega
     ·have hY4 : ts[Y]! = 4 := by omega
      rcases hut with hut|hut
      ·obtain ⟨c1, c2, c3, c4⟩ := B.w.o u hul hut hu3
       have := (B.f Y hyl (by omega) q1).2.2.1;omega
      ·exact B.d u Y hul hyl hut hY4 hu3 q1 hceu eid
    subst euY
    have hln : cC pts[a]! = true := by unfold cC;rcases h4 with ⟨h,_⟩ | ⟨h,_⟩ <;> (rw [h]; rfl)
    refine ⟨a,.base ⟨he,hln,e⟩,.base ⟨he,hln⟩,hyn.symm,fun h => ?_⟩
    rcases htx v e with ⟨h5,_⟩ | ⟨_,_,h5⟩
    ·omega
    ·exact h5
   ·rw [t3] at e2
    have hY2 : ts[Y]! ≠ 2 := fun q => by
     obtain ⟨b1,b2,b3,b4⟩ := B.w.o Y hyl q q1
     have e0 := B.w.h _ hx0.2.2
     refine Nj hcY.d (by have := hcY.l;omega) e2 ?_
     rw [e0]; unfold jE;rw [b3,q]; rfl
    obtain ⟨L,l1,l2,l3,l4⟩ := R.c Y u hyl hul (by omega) hut q1 hu3 (.base ⟨ha,hyl,huse⟩) hceu.symm e2
    have hTY := hT Y hyl
    refine ⟨L,.step l1 ⟨rfl,he,.inr ⟨e,hyn,.inl ⟨?_,?_⟩⟩⟩,.step l2 ⟨rfl,he,?_,?_⟩,l3,fun h => ?_⟩
    ·unfold cC;rcases h4 with ⟨h,_⟩ | ⟨h,_⟩ <;> (rw [h]; rfl)
    ·show jD ts[Y]! = true
     unfold jD;rw [Bool.or_eq_true,decide_eq_true_eq,decide_eq_true_eq]; omega
    ·rw [l3]; exact hu2
    ·rw [l3]; exact hu1
    ·refine l4 ?_
     rcases htx v e with ⟨h5,_⟩ | ⟨_,h5,_⟩
     ·omega
     ·have := hwr h5;omega
 ·obtain ⟨n1, n2⟩ := new u e hul
  rw [hce,n1,n2,hat] at hsub
  have hsub' : [⟨s.cells[s.slots[Y]!.ptr.cell.toNat]!.next,wr⟩,jE ts sl' v].Sublist ((iS s.cells[s.slots[Y]!.ptr.cell.toNat]! s.slots[Y]!.ptr wr).stk ++ [⟨s.cells[s.slots[Y]!.ptr.cell.toNat]!.next,wr⟩]) := hsub
  rcases zK hsub' with e2 | ⟨_,hin⟩
  ·have := frs _ (Fj e2).1
   dsimp only at this;omega
  ·have := frs _ hin
   dsimp only at this;omega
end
section
variable {ts : List Int} {pts : List Pnt} {N : Int} {a k : Nat} {s : Mc}
def yF (s : Mc) (x : Pnt) : Sl :=
 if x.op = 1 then ⟨true,x.n,⟨0,0⟩⟩ else if x.op = 2 then ⟨true,0,⟨s.cells.length,0⟩⟩ else if x.op = 3 then s.slots[x.y.toNat]!
 else if x.op = 4 ∨ x.op = 5 then ⟨true,0,qM s.cells s.slots[x.y.toNat]!.ptr (decide (x.op = 5))⟩ else ⟨true,oQ s.cells s.slots[x.y.toNat]!.ptr,⟨0,0⟩⟩
theorem WG.doY (w:WG ts pts) (A:WA ts pts){a:Nat}(ha:a < pts.length){s:Mc}(hl:s.slots.length = ts.length) (hu:cA ts s pts[a]! = false) (h11:pts[a]!.op ≠ 11) (hgo:(bT ts s pts[a]!).2 = -1) :
  ∀ v,v < ts.length → (bT ts s pts[a]!).1.slots[v]! = if aM pts[a]! = (v : Int) then yF s pts[a]! else if aQ ts pts[a]! v = 2 then gD else s.slots[v]! := by
 obtain ⟨y,hy,hs⟩ := w.doS A ha hl hu h11 hgo
 have hx := w.x a ha
 have hxb := hx.2
 intro v hv
 by_cases q : aM pts[a]! = (v : Int)
 ·rw [if_pos q]
  have hop : 1 ≤ pts[a]!.op ∧ pts[a]!.op ≤ 6 := by
   apply Classical.byContradiction;intro h
   unfold aM at q;rw [if_neg h] at q;omega
  rw [oY hop] at q
  have hxv : pts[a]!.x.toNat = v := by omega
  have hh := hgo
  unfold bT at hh ⊢
  unfold yF
  by_cases h1 : pts[a]!.op = 1
  ·rw [if_pos h1,if_pos h1,eH,hxv,aP,if_pos ⟨rfl,by omega⟩]
  rw [if_neg h1] at hh ⊢
  rw [if_neg h1]
  by_cases h2 : pts[a]!.op = 2
  ·rw [if_pos h2] at hh ⊢
   rw [if_pos h2]
   split at hh
   ·cases hh
   ·rename_i h200
    rw [if_neg h200,eH,hxv,aP,if_pos ⟨rfl,by dsimp only;omega⟩]
  rw [if_neg h2] at hh ⊢
  rw [if_neg h2]
  by_cases h3 : pts[a]!.op = 3
  ·rw [if_pos h3, if_pos h3, eH, hxv, aP, if_pos]
   refine ⟨rfl,?_⟩
   split
   ·dsimp only;rw [List.length_set]; omega
   ·omega
  rw [if_neg h3] at hh ⊢
  rw [if_neg h3]
  by_cases h4 : pts[a]!.op = 4 ∨ pts[a]!.op = 5
  ·rw [if_pos h4] at hh ⊢
   rw [if_pos h4]
   split at hh
   ·rename_i hz
    rw [if_pos hz,eH,hxv,aP,if_pos ⟨rfl,by dsimp only;omega⟩]
   ·exact (tJ hh).elim
  rw [if_neg h4] at hh ⊢
  rw [if_neg h4]
  have h6 : pts[a]!.op = 6 := by omega
  rw [if_pos h6] at hh ⊢
  split at hh
  ·rename_i hz
   rw [if_pos hz,eH,hxv,aP,if_pos ⟨rfl,by dsimp only;omega⟩]
  ·exact (tJ hh).elim
 ·rw [hs v hv,if_neg q,if_neg q]
theorem OK {x:Pnt}(PA:PtA ts x) (h:x.op = 1):(bT ts s x).1.cells = s.cells:=by
 unfold bT;rw [if_pos h,qD,if_neg (fun q => by rw [PA.t1 h] at q;exact absurd q.1 (by decide))]
theorem OA {x:Pnt}(h:x.op = 2) (hgo:(bT ts s x).2 = -1):(bT ts s x).1.cells = if ts[x.x.toNat]! = 2 ∧ s.slots[x.x.toNat]!.set = true then gY (s.cells ++ [o9 x.n]) s.slots[x.x.toNat]!.ptr else s.cells ++ [o9 x.n]:=by
 unfold bT at hgo ⊢
 rw [if_neg (by omega),if_pos h] at hgo ⊢
 split at hgo
 ·cases hgo
 ·rename_i h200
  rw [if_neg h200,qD]
theorem OJ {x:Pnt}(h:x.op = 3) (hne:x.x.toNat ≠ x.y.toNat):(bT ts s x).1.cells = if ts[x.x.toNat]! = 2 ∧ s.slots[x.x.toNat]!.set = true then gY s.cells s.slots[x.x.toNat]!.ptr else s.cells:=by
 unfold bT
 rw [if_neg (by omega),if_neg (by omega),if_pos h,qD]
 split
 ·have e : (s.slots.set x.y.toNat gD)[x.x.toNat]! = s.slots[x.x.toNat]! := by rw [aP, if_neg (fun q => hne q.1.symm)]
  dsimp only;rw [e]
 ·rfl
theorem I0 {x:Pnt}(PA:PtA ts x) (h:x.op = 4 ∨ x.op = 5) (hgo:(bT ts s x).2 = -1):kZ s.cells s.slots[x.y.toNat]!.ptr (decide (x.op = 5)) = 0 ∧ (bT ts s x).1.cells = j9 s.cells s.slots[x.y.toNat]!.ptr (decide (x.op = 5)):=by
 have hxt : ts[x.x.toNat]! ≠ 2 := by
  rcases h with h4|h4
  ·rw [(PA.t4 h4).1]; decide
  ·rw [(PA.t5 h4).1]; decide
 unfold bT at hgo ⊢
 rw [if_neg (by omega),if_neg (by omega),if_neg (by omega),if_pos h] at hgo ⊢
 split at hgo
 ·rename_i hz
  rw [if_pos hz,qD,if_neg (fun q => hxt q.1)]
  exact ⟨hz,rfl⟩
 ·exact (tJ hgo).elim
theorem Ix {x:Pnt}(PA:PtA ts x) (h:x.op = 6) (hgo:(bT ts s x).2 = -1):a7 s.cells s.slots[x.y.toNat]!.ptr false = 0 ∧ (bT ts s x).1.cells = cO s.cells s.slots[x.y.toNat]!.ptr false:=by
 have hxt : ts[x.x.toNat]! ≠ 2 := by rw [(PA.t6 h).1]; decide
 unfold bT at hgo ⊢
 rw [if_neg (by omega),if_neg (by omega),if_neg (by omega),if_neg (by omega),if_pos h] at hgo ⊢
 split at hgo
 ·rename_i hz
  rw [if_pos hz,qD,if_neg (fun q => hxt q.1)]
  exact ⟨hz,rfl⟩
 ·exact (tJ hgo).elim
theorem Ot {x:Pnt}(h:x.op = 7) (hgo:(bT ts s x).2 = -1):qC s.cells s.slots[x.x.toNat]!.ptr s.slots[x.y.toNat]!.num = 0 ∧ (bT ts s x).1.cells = pI s.cells s.slots[x.x.toNat]!.ptr s.slots[x.y.toNat]!.num:=by
 unfold bT at hgo ⊢
 rw [if_neg (by omega),if_neg (by omega),if_neg (by omega),if_neg (by omega),if_neg (by omega),if_pos h] at hgo ⊢
 exact ⟨R6 hgo,rfl⟩
theorem Ox {x:Pnt}(h:x.op = 8) (hgo:(bT ts s x).2 = -1):a7 s.cells s.slots[x.x.toNat]!.ptr true = 0 ∧ (bT ts s x).1.cells = gY s.cells s.slots[x.x.toNat]!.ptr:=by
 unfold bT at hgo ⊢
 rw [if_neg (by omega),if_neg (by omega),if_neg (by omega),if_neg (by omega),if_neg (by omega),if_neg (by omega),if_pos h] at hgo ⊢
 exact ⟨R6 hgo,rfl⟩
theorem LA {x:Pnt}(h:9 ≤ x.op) (h11:x.op ≠ 11):bT ts s x = (s,-1):=by
 unfold bT
 rw [if_neg (by omega),if_neg (by omega),if_neg (by omega),if_neg (by omega),if_neg (by omega),if_neg (by omega),if_neg (by omega),if_neg h11]
theorem RfI.step (w:WG ts pts) (A:WA ts pts) (he:cF pts a k) (h11:pts[a]!.op ≠ 11) (B:Bs ts N s) (V:Vs ts pts a s) (R:RfI ts (fun v => Nd ts pts (a,v)) (Ln ts pts a) s.slots s.cells) (hC:∀ L,¬ Cf ts pts a L) (hu:cA ts s pts[a]! = false) (hgo:(bT ts s pts[a]!).2 = -1) :
  RfI ts (fun v => Nd ts pts (k,v)) (Ln ts pts k) (bT ts s pts[a]!).1.slots (bT ts s pts[a]!).1.cells := by
 have ha := he.1
 have hT : ∀ v,v < ts.length → ts[v]! ≤ 4 := fun v hv => (w.ty v hv).2
 have PA := A.a a ha
 have hx := w.x a ha
 have hyb := w.y a ha
 have hop := w.op a ha
 have hs := w.doY A ha B.w.k.l hu h11 hgo
 have hmm : OkM (bT ts s pts[a]!).1.cells := (B.w.do PA h11 (fun h => ⟨hx.1,hx.2 h⟩) hop.1 (fun h1 h2 => ⟨hyb.1,hyb.2 h1 h2⟩) hu).k.m
 have hP : ∀ v,Kp ts pts a v → Nd ts pts (a,v) := fun v h => h.nd w
 have R0 : RfI ts (Kp ts pts a) (Ln ts pts a) s.slots s.cells := R.mono hP
 have hxn : ((pts[a]!.x.toNat : Nat) : Int) = pts[a]!.x := by omega
 have hyn : ((pts[a]!.y.toNat : Nat) : Int) = pts[a]!.y := by omega
 have hno : 7 ≤ pts[a]!.op → ∀ v : Nat,aM pts[a]! = (v : Int) → v < ts.length → ts[v]! = 1 := fun h v e => by rw [Ie h] at e;omega
 by_cases h1 : pts[a]!.op = 1
 ·rw [OK PA h1] at hmm ⊢
  refine RfI.fin1 he hmm hs R0 fun v q hv => ?_
  rw [oY (by omega)] at q
  rw [show v = pts[a]!.x.toNat by omega]; exact PA.t1 h1
 by_cases h2 : pts[a]!.op = 2
 ·have hxl : pts[a]!.x.toNat < ts.length := by have := hx.2 (by omega); omega
  have e2 := PA.t2 (.inl h2)
  have hset : aM pts[a]! = ((pts[a]!.x.toNat : Nat) : Int) := by rw [oY (by omega)]; omega
  have hv2 : ∀ v : Nat,aM pts[a]! = (v : Int) → v = pts[a]!.x.toNat := fun v e => by omega
  have R1 := R0.nw (fun v q1 q2 q3 => by have := B.f v q1 q2 q3;unfold fY;omega) (o9 pts[a]!.n)
  have h200 : s.cells.length ≠ 200 := fun q => by
   unfold bT at hgo;rw [if_neg h1,if_pos h2,if_pos q] at hgo;cases hgo
  have hm1 := B.w.k.m.nw (PA.n (.inr h2)) (by have := B.w.k.m.l;omega)
  have R2 := R1.put V B hm1 (B.w.h.nw _) (by rw [List.length_append]; omega) (fun c hc => by rw [oW hc]) hC hxl hset
  rw [OA h2 hgo] at hmm ⊢
  refine RfI.fin he hmm hs R2 (fun v e hv h3 => ?_) (fun v u e hv hul h3 => ?_) (fun v u e hv hul h3 hut hkp hv3 hv4 hce => ?_)
  ·rw [hv2 v e] at h3;omega
  ·rw [hv2 v e] at h3;omega
  ·exfalso
   have e1 := hs u hul
   rw [if_pos e] at e1
   have e3 : yF s pts[a]! = ⟨true,0,⟨s.cells.length,0⟩⟩ := by unfold yF;rw [if_neg h1,if_pos h2]
   have := B.f v hv h3 hv3
   unfold fY at hce
   rw [hv4,e1,e3] at hce
   dsimp only at hce;omega
 by_cases h3 : pts[a]!.op = 3
 ·have hxl : pts[a]!.x.toNat < ts.length := by have := hx.2 (by omega); omega
  have hyl : pts[a]!.y.toNat < ts.length := by have := hyb.2 (by omega) (by omega);omega
  obtain ⟨et,hne⟩ := PA.t3 h3
  have hset : aM pts[a]! = ((pts[a]!.x.toNat : Nat) : Int) := by rw [oY (by omega)]; omega
  have hv2 : ∀ v : Nat,aM pts[a]! = (v : Int) → v = pts[a]!.x.toNat := fun v e => by omega
  have huse : aQ ts pts[a]! (pts[a]!.y.toNat : Nat) ≠ 0 := JC h3 hyn
  have R2 := R0.put V B B.w.k.m B.w.h (Nat.le_refl _) (fun _ _ => rfl) hC hxl hset
  have ey : yF s pts[a]! = s.slots[pts[a]!.y.toNat]! := by unfold yF;rw [if_neg h1,if_neg h2,if_pos h3]
  have new : ∀ v : Nat, aM pts[a]! = (v : Int) → v < ts.length → fY (bT ts s pts[a]!).1.slots v = fY s.slots pts[a]!.y.toNat ∧ jE ts (bT ts s pts[a]!).1.slots v = jE ts s.slots pts[a]!.y.toNat := fun v e hv => by
   have e1 := hs v hv
   rw [if_pos e,ey] at e1
   unfold fY jE
   rw [e1,hv2 v e,et]
   exact ⟨rfl,rfl⟩
  have ec := OJ (ts := ts) (s := s) h3 (fun q => hne (by omega))
  rw [ec] at hmm ⊢
  refine RfI.fin he hmm hs R2 (fun v e hv h4 => ?_) (fun v u e hv hul h4 hut hu1 hu2 hu3 hu4 hce hsub => ?_) (fun v u e hv hul h4 hut hkp hv3 hv4 hce hsub => ?_)
  ·obtain ⟨n1, n2⟩ := new v e hv
   rw [hv2 v e] at h4
   rw [n1,n2,if_neg (fun q => by omega)]
   obtain ⟨u1,u2,u3,u4,u5⟩ := R.use w B ha hu hyl (by omega) huse
   exact ⟨u4,u5⟩
  ·obtain ⟨n1, n2⟩ := new v e hv
   have h4' := h4
   rw [hv2 v e] at h4'
   obtain ⟨u1,u2,u3,u4,u5⟩ := R.use w B ha hu hyl (by omega) huse
   rw [if_neg (fun q => by omega),n1,n2] at hsub
   have htu : jE ts (bT ts s pts[a]!).1.slots u = jE ts s.slots u := by unfold jE;rw [hu4]
   have hcu : fY (bT ts s pts[a]!).1.slots u = fY s.slots u := by unfold fY;rw [hu4]
   rw [htu] at hsub
   obtain ⟨L,l1,l2,l3,l4⟩ := R.c pts[a]!.y.toNat u hyl hul (by omega) hut u1 hu3 (.base ⟨ha,hyl,huse⟩) (by rw [← n1,← hcu]; exact hce) hsub
   refine ⟨L,.step l1 ⟨rfl,he,.inr ⟨e,hyn,.inr h3⟩⟩,.step l2 ⟨rfl,he,?_,?_⟩,l3,fun h => l4 ?_⟩
   ·rw [l3]; exact hu2
   ·rw [l3]; exact hu1
   ·rw [hv2 v e] at h;omega
  ·obtain ⟨n1, n2⟩ := new u e hul
   have hut' := hut
   rw [hv2 u e] at hut'
   have htv : jE ts (bT ts s pts[a]!).1.slots v = jE ts s.slots v := by unfold jE;rw [hv4]
   have hcv : fY (bT ts s pts[a]!).1.slots v = fY s.slots v := by unfold fY;rw [hv4]
   rw [n2,htv,hcv] at hsub
   have hset' := iI hu hyl huse
   have hl := R2.c v pts[a]!.y.toNat hv hyl h4 (by omega) hv3 hset' hkp (by rw [← hcv,← n1]; exact hce) hsub
   exact rH hC (.inr (.inr (.inr (.inl ⟨h3,uP.2 (by omega),hyn.symm,rfl⟩)))) v hkp hl (.inl rfl)
 by_cases h4 : pts[a]!.op = 4 ∨ pts[a]!.op = 5
 ·obtain ⟨hk, ec⟩ := I0 PA h4 hgo
  rw [ec]
  refine RfI.loan w A he B R hC hu ?_ hs hk ?_
  ·rcases h4 with h | h
   ·exact .inl ⟨h,by rw [h]; rfl⟩
   ·exact .inr ⟨h,by rw [h]; rfl⟩
  ·unfold yF;rw [if_neg h1,if_neg h2,if_neg h3,if_pos h4]
 by_cases h6 : pts[a]!.op = 6
 ·obtain ⟨hk, ec⟩ := Ix PA h6 hgo
  have hyl : pts[a]!.y.toNat < ts.length := by have := hyb.2 (by omega) (by omega);omega
  have huse : aQ ts pts[a]! (pts[a]!.y.toNat : Nat) ≠ 0 := uD (by omega) hyn
  have hty := (PA.t6 h6).2
  obtain ⟨u1,u2,u3,u4,u5⟩ := R.use w B ha hu hyl hty huse
  rw [ec] at hmm ⊢
  refine RfI.fin1 he hmm hs (R.tch hT B.w.k.m B.sm hP hyl hty u1 hk u5 (fun q => by cases q) (rH hC (.inl ⟨.inr h6,hyn.symm,rfl⟩))) fun v q hv => ?_
  rw [oY (by omega)] at q
  rw [show v = pts[a]!.x.toNat by omega]; exact (PA.t6 h6).1
 by_cases h7 : pts[a]!.op = 7
 ·obtain ⟨hk, ec⟩ := Ot h7 hgo
  have hxl : pts[a]!.x.toNat < ts.length := by have := hx.2 (by omega);omega
  have huse : aQ ts pts[a]! (pts[a]!.x.toNat : Nat) ≠ 0 := OH h7 hxn
  have hty := (PA.t7 h7).1
  obtain ⟨u1,u2,u3,u4,u5⟩ := R.use w B ha hu hxl (by omega) huse
  rw [ec] at hmm ⊢
  refine RfI.fin1 he hmm hs ((R.tch hT B.w.k.m B.sm hP hxl (by omega) u1 (II hk) u5 (fun _ => by omega) (rH hC (.inr (.inr (.inl ⟨.inl h7,hxn.symm,rfl⟩))))).cong (RD hk)) (hno (by omega))
 by_cases h8 : pts[a]!.op = 8
 ·obtain ⟨hk, ec⟩ := Ox h8 hgo
  have hxl : pts[a]!.x.toNat < ts.length := by have := hx.2 (by omega);omega
  have huse : aQ ts pts[a]! (pts[a]!.x.toNat : Nat) ≠ 0 := Ov h8 hxn
  have hset := iI hu hxl huse
  have hty := PA.t2 (.inr h8)
  rw [ec] at hmm ⊢
  refine RfI.fin1 he hmm hs (R.fr B.w.h hP (fun v q1 q2 q3 => (B.f v q1 q2 q3).2.2.1) hxl hty hset hk (B.w.o _ hxl hty hset).2.2.1 fun v hv hg => ?_) (hno (by omega))
  exact rH hC (.inr (.inr (.inl ⟨.inr h8,hxn.symm,rfl⟩))) v hv hg (.inl rfl)
 ·have e := LA (ts := ts) (s := s) (x := pts[a]!) (by omega) h11
  rw [e] at hmm hs ⊢
  exact RfI.fin1 he hmm hs R0 (hno (by omega))
end
structure Mo (m m' : List Cl) : Prop where
 l : m.length ≤ m'.length
 n : ∀ c,c < m.length → m[c]!.next ≤ m'[c]!.next
theorem Mo.refl (m:List Cl):Mo m m := ⟨Nat.le_refl _,fun _ _ => Int.le_refl _⟩
theorem Mo.trans {a b c:List Cl}(h:Mo a b) (h':Mo b c):Mo a c := ⟨Nat.le_trans h.l h'.l,fun i hi => Int.le_trans (h.n i hi) (h'.n i (Nat.lt_of_lt_of_le hi h.l))⟩
theorem Mo.set {m:List Cl}{k:Nat}{c:Cl}(h:m[k]!.next ≤ c.next):Mo m (m.set k c):=by
 refine ⟨by rw [List.length_set]; exact Nat.le_refl _,fun i hi => ?_⟩
 rw [aP]
 split
 ·rename_i q;rw [← q.1]; exact h
 ·exact Int.le_refl _
theorem Mo.app (m:List Cl) (z:Cl):Mo m (m ++ [z]) := ⟨by rw [List.length_append]; omega,fun i hi => by rw [oW hi]; exact Int.le_refl _⟩
theorem Mo.tch (m:List Cl) (x:Pt) (wr:Bool):Mo m (cO m x wr):=by
 unfold cO;split
 ·exact Mo.set (Int.le_refl _)
 ·exact Mo.refl _
theorem Mo.fr (m:List Cl) (x:Pt):Mo m (gY m x):=by
 unfold gY;split
 ·exact Mo.set (Int.le_refl _)
 ·exact Mo.refl _
theorem Mo.wr (m:List Cl) (x:Pt) (v:Int):Mo m (pI m x v):=by
 unfold pI;split
 ·exact Mo.set (Int.le_refl _)
 ·exact Mo.refl _
theorem Mo.ln (m:List Cl) (x:Pt) (u:Bool):Mo m (j9 m x u):=by
 unfold j9;split
 ·refine Mo.set ?_
  show m[x.cell.toNat]!.next ≤ m[x.cell.toNat]!.next + 1
  omega
 ·exact Mo.refl _
section
variable {ts : List Int} {pts : List Pnt} {N : Int} {a k : Nat} {s : Mc}
theorem RK (w:WG ts pts) (A:WA ts pts) (ha:a < pts.length) (h11:pts[a]!.op ≠ 11) (hN:1 ≤ N) (h:ShM N s.cells) (hgo:(bT ts s pts[a]!).2 = -1):ShM (N + 1) (bT ts s pts[a]!).1.cells ∧ Mo s.cells (bT ts s pts[a]!).1.cells:=by
 have PA := A.a a ha
 have hop := w.op a ha
 by_cases h1 : pts[a]!.op = 1
 ·rw [OK PA h1]; exact ⟨h.mono (by omega),Mo.refl _⟩
 by_cases h2 : pts[a]!.op = 2
 ·have h' := h.nw hN pts[a]!.n
  rw [OA h2 hgo]
  split
  ·exact ⟨(h'.fr _).mono (by omega),(Mo.app _ _).trans (Mo.fr _ _)⟩
  ·exact ⟨h'.mono (by omega),Mo.app _ _⟩
 by_cases h3 : pts[a]!.op = 3
 ·have hx := w.x a ha
  have hyb := w.y a ha
  have hne := (PA.t3 h3).2
  rw [OJ h3 (fun q => hne (by omega))]
  split
  ·exact ⟨(h.fr _).mono (by omega),Mo.fr _ _⟩
  ·exact ⟨h.mono (by omega),Mo.refl _⟩
 by_cases h4 : pts[a]!.op = 4 ∨ pts[a]!.op = 5
 ·rw [(I0 PA h4 hgo).2]; exact ⟨h.ln _ _,Mo.ln _ _ _⟩
 by_cases h6 : pts[a]!.op = 6
 ·rw [(Ix PA h6 hgo).2]; exact ⟨(h.tch _ _).mono (by omega),Mo.tch _ _ _⟩
 by_cases h7 : pts[a]!.op = 7
 ·rw [(Ot h7 hgo).2]; exact ⟨(h.wr _ _).mono (by omega),Mo.wr _ _ _⟩
 by_cases h8 : pts[a]!.op = 8
 ·rw [(Ox h8 hgo).2]; exact ⟨(h.fr _).mono (by omega),Mo.fr _ _⟩
 ·rw [LA (by omega) h11]; exact ⟨h.mono (by omega),Mo.refl _⟩
theorem Bs.step (w:WG ts pts) (A:WA ts pts) (ha:a < pts.length) (h11:pts[a]!.op ≠ 11) (hN:1 ≤ N) (B:Bs ts N s) (hu:cA ts s pts[a]! = false) (hgo:(bT ts s pts[a]!).2 = -1):Bs ts (N + 1) (bT ts s pts[a]!).1:=by
 have PA := A.a a ha
 have hx := w.x a ha
 have hyb := w.y a ha
 have hop := w.op a ha
 have hs := w.doY A ha B.w.k.l hu h11 hgo
 obtain ⟨g1,g2⟩ := RK w A ha h11 hN B.sm hgo
 have hxn : ((pts[a]!.x.toNat : Nat) : Int) = pts[a]!.x := by omega
 have hyn : ((pts[a]!.y.toNat : Nat) : Int) = pts[a]!.y := by omega
 have hv2 : ∀ v : Nat, aM pts[a]! = (v : Int) → (1 ≤ pts[a]!.op ∧ pts[a]!.op ≤ 6) ∧ v = pts[a]!.x.toNat := fun v e => by
  by_cases q : 7 ≤ pts[a]!.op
  ·rw [Ie q] at e;omega
  ·rw [oY (by omega)] at e;omega
 have old : ∀ v, v < ts.length → (bT ts s pts[a]!).1.slots[v]!.set = true → aM pts[a]! ≠ (v : Int) → aQ ts pts[a]! v ≠ 2 ∧ (bT ts s pts[a]!).1.slots[v]! = s.slots[v]! := fun v hv h1 h2 => by
  have e := hs v hv
  rw [if_neg h2] at e
  by_cases q : aQ ts pts[a]! v = 2
  ·rw [if_pos q] at e;rw [e] at h1;cases h1
  ·rw [if_neg q] at e;exact ⟨q,e⟩
 have oldf : ∀ v, v < ts.length → 3 ≤ ts[v]! → s.slots[v]!.set = true → 0 ≤ s.slots[v]!.ptr.cell ∧ s.slots[v]!.ptr.cell < (bT ts s pts[a]!).1.cells.length ∧ 1 ≤ s.slots[v]!.ptr.tag ∧ s.slots[v]!.ptr.tag < (bT ts s pts[a]!).1.cells[fY s.slots v]!.next := fun v h1 h2 h3 => by
  obtain ⟨f1,f2,f3,f4⟩ := B.f v h1 h2 h3
  have := g2.l
  have h5 := g2.n (fY s.slots v) (by unfold fY;omega)
  exact ⟨f1,by omega,f3,by omega⟩
 -- a new reference
 have newf : ∀ v : Nat, aM pts[a]! = (v : Int) → v < ts.length → 3 ≤ ts[v]! → (pts[a]!.op = 3 ∧ yF s pts[a]! = s.slots[pts[a]!.y.toNat]! ∧ pts[a]!.y.toNat < ts.length ∧ ts[pts[a]!.y.toNat]! = ts[v]! ∧ s.slots[pts[a]!.y.toNat]!.set = true) ∨
   (∃ c : Nat,c < s.cells.length ∧ (yF s pts[a]!).ptr = ⟨(c : Int),s.cells[c]!.next⟩ ∧ s.cells[c]!.next + 1 ≤ (bT ts s pts[a]!).1.cells[c]!.next) := fun v e hv h3 => by
  obtain ⟨o1,o2⟩ := hv2 v e
  by_cases h1 : pts[a]!.op = 1
  ·have := PA.t1 h1;rw [← o2] at this;omega
  by_cases h2 : pts[a]!.op = 2
  ·have := PA.t2 (.inl h2);rw [← o2] at this;omega
  by_cases h3' : pts[a]!.op = 3
  ·have hyl : pts[a]!.y.toNat < ts.length := by have := hyb.2 (by omega) (by omega); omega
   refine .inl ⟨h3',by unfold yF;rw [if_neg h1,if_neg h2,if_pos h3'],hyl,?_,iI hu hyl (JC h3' hyn)⟩
   rw [o2]; exact (PA.t3 h3').1.symm
  by_cases h4 : pts[a]!.op = 4 ∨ pts[a]!.op = 5
  ·obtain ⟨hk, ec⟩ := I0 PA h4 hgo
   have hx0 := dK (mF hk)
   refine .inr ⟨s.slots[pts[a]!.y.toNat]!.ptr.cell.toNat,hx0.2.2,?_,?_⟩
   ·unfold yF; rw [if_neg h1, if_neg h2, if_neg h3', if_pos h4]
    dsimp only
    unfold qM;rw [if_pos hk,Int.toNat_of_nonneg hx0.1]
   ·rw [ec, EX hk, if_pos rfl]
    show _ ≤ (iS _ _ _).next + 1
    exact Int.le_refl _
  ·have h6 : pts[a]!.op = 6 := by omega
   have := (PA.t6 h6).1;rw [← o2] at this;omega
 refine ⟨B.w.do PA h11 (fun h => ⟨hx.1,hx.2 h⟩) hop.1 (fun h1 h2 => ⟨hyb.1,hyb.2 h1 h2⟩) hu,fun v hv ht => ?_,g1,fun v hv h3 hset => ?_,fun v u hv hul h4 h4' hset hset' hce htg => ?_⟩
 ·rw [hs v hv]
  by_cases q : aM pts[a]! = (v : Int)
  ·rw [if_pos q]
   obtain ⟨o1,o2⟩ := hv2 v q
   unfold yF
   by_cases h1 : pts[a]!.op = 1
   ·rw [if_pos h1]; exact PA.n (.inl h1)
   rw [if_neg h1]
   by_cases h2 : pts[a]!.op = 2
   ·have := PA.t2 (.inl h2);rw [← o2] at this;omega
   rw [if_neg h2]
   by_cases h3 : pts[a]!.op = 3
   ·rw [if_pos h3]
    have hyl : pts[a]!.y.toNat < ts.length := by have := hyb.2 (by omega) (by omega);omega
    have := (PA.t3 h3).1
    rw [← o2,ht] at this
    exact B.i _ hyl this.symm
   rw [if_neg h3]
   by_cases h4 : pts[a]!.op = 4 ∨ pts[a]!.op = 5
   ·rcases h4 with h | h
    ·have := (PA.t4 h).1;rw [← o2] at this;omega
    ·have := (PA.t5 h).1;rw [← o2] at this;omega
   rw [if_neg h4]
   have h6 : pts[a]!.op = 6 := by omega
   have hk := (Ix PA h6 hgo).1
   dsimp only
   unfold oQ;rw [if_pos hk]
   exact (B.w.k.m.at (dK hk).2.2).v
  ·rw [if_neg q]
   split
   ·exact ⟨by decide,by decide⟩
   ·exact B.i v hv ht
 ·by_cases q : aM pts[a]! = (v : Int)
  ·have e := hs v hv
   rw [if_pos q] at e
   unfold fY
   rw [e]
   rcases newf v q hv h3 with ⟨n1,n2,n3,n4,n5⟩ | ⟨c,n1,n2,n3⟩
   ·rw [n2]; exact oldf _ n3 (by omega) n5
   ·rw [n2]
    have := g2.l
    have h5 := (B.w.k.m.at n1).n
    exact ⟨by dsimp only;omega,by dsimp only;omega,h5.1,by show s.cells[c]!.next < (bT ts s pts[a]!).1.cells[c]!.next;omega⟩
  ·obtain ⟨_, e⟩ := old v hv hset q
   unfold fY
   rw [e] at hset ⊢
   exact oldf v hv h3 hset
 ·have fresh : ∀ (v u : Nat), aM pts[a]! = (v : Int) → v < ts.length → u < ts.length → ts[v]! = 4 → ts[u]! = 4 → aM pts[a]! ≠ (u : Int) → (bT ts s pts[a]!).1.slots[u]!.set = true →
    fY (bT ts s pts[a]!).1.slots v = fY (bT ts s pts[a]!).1.slots u → (bT ts s pts[a]!).1.slots[v]!.ptr.tag = (bT ts s pts[a]!).1.slots[u]!.ptr.tag → False := fun v u e hv hul h4 h4' ne hset hce htg => by
   have e1 := hs v hv
   rw [if_pos e] at e1
   obtain ⟨n0,e2⟩ := old u hul hset ne
   unfold fY at hce
   rw [e1,e2] at hce htg
   rw [e2] at hset
   rcases newf v e hv (by omega) with ⟨n1,n2,n3,n4,n5⟩ | ⟨c,n1,n2,n3⟩
   ·rw [n2] at hce htg
    have := B.d _ u n3 hul (by omega) h4' n5 hset hce htg
    rw [← this] at n0
    exact n0 (PS n1 hyn (.inr (by omega)))
   ·rw [n2] at hce htg
    have f := (B.f u hul (by omega) hset)
    dsimp only at hce htg
    have e3 : fY s.slots u = c := by unfold fY;omega
    rw [e3] at f
    omega
  by_cases q : aM pts[a]! = (v : Int)
  ·by_cases q' : aM pts[a]! = (u : Int)
   ·omega
   ·exact (fresh v u q hv hul h4 h4' q' hset' hce htg).elim
  ·by_cases q' : aM pts[a]! = (u : Int)
   ·exact (fresh u v q' hul hv h4' h4 q hset hce.symm htg.symm).elim
   ·obtain ⟨_, e⟩ := old v hv hset q
    obtain ⟨_,e'⟩ := old u hul hset' q'
    unfold fY at hce
    rw [e] at hset hce htg
    rw [e'] at hset' hce htg
    exact B.d v u hv hul h4 h4' hset hset' hce htg
theorem NT (w:WG ts pts) (A:WA ts pts) (ha:a < pts.length) (h11:pts[a]!.op ≠ 11) (hN:N ≤ 198) (B:Bs ts N s) (R:RfI ts (fun v => Nd ts pts (a,v)) (Ln ts pts a) s.slots s.cells) (hu:cA ts s pts[a]! = false):(bT ts s pts[a]!).2 = -1 ∨ (bT ts s pts[a]!).2 = 1:=by
 have PA := A.a a ha
 have hx := w.x a ha
 have hyb := w.y a ha
 have hop := w.op a ha
 have hxn : ((pts[a]!.x.toNat : Nat) : Int) = pts[a]!.x := by omega
 have hyn : ((pts[a]!.y.toNat : Nat) : Int) = pts[a]!.y := by omega
 by_cases h9 : 9 ≤ pts[a]!.op
 ·rw [LA h9 h11]; exact .inl rfl
 have hxl : pts[a]!.x.toNat < ts.length := by have := hx.2 (by omega);omega
 unfold bT
 by_cases h1 : pts[a]!.op = 1
 ·rw [if_pos h1]; exact .inl (B.w.put0 (by rw [PA.t1 h1]; decide) _).2
 rw [if_neg h1]
 by_cases h2 : pts[a]!.op = 2
 ·rw [if_pos h2]
  have ht := PA.t2 (.inl h2)
  by_cases h200 : s.cells.length = 200
  ·rw [if_pos h200]; exact .inr rfl
  ·rw [if_neg h200]
   exact .inl ((B.w.new (PA.n (.inr h2)) h200 s.read).putB (v := pts[a]!.x.toNat) hxl ht _ rfl rfl).2
 rw [if_neg h2]
 by_cases h3 : pts[a]!.op = 3
 ·rw [if_pos h3]
  have hyl : pts[a]!.y.toNat < ts.length := by have := hyb.2 (by omega) (by omega);omega
  obtain ⟨ht,hne⟩ := PA.t3 h3
  have hys := iI hu hyl (JC h3 hyn)
  by_cases q2 : ts[pts[a]!.y.toNat]! = 2
  ·rw [if_pos (uP.2 (.inl q2))]
   have g := B.w.give hyl q2 hys
   obtain ⟨b1,b2,b3,b4⟩ := B.w.o _ hyl q2 hys
   refine .inl (g.putB (v := pts[a]!.x.toNat) hxl (by rw [ht]; exact q2) _ hys ?_).2
   generalize s.slots[pts[a]!.y.toNat]! = z at b1 b3
   obtain ⟨zs,zn,zc,zt⟩ := z
   dsimp only at b1 b3 ⊢
   rw [b3,Int.toNat_of_nonneg b1]
  ·split
   ·exact .inl ((B.w.clr (v := pts[a]!.y.toNat) q2).put0 (by rw [ht]; exact q2) _).2
   ·exact .inl (B.w.put0 (by rw [ht]; exact q2) _).2
 rw [if_neg h3]
 by_cases h4 : pts[a]!.op = 4 ∨ pts[a]!.op = 5
 ·rw [if_pos h4]
  have hyl : pts[a]!.y.toNat < ts.length := by have := hyb.2 (by omega) (by omega);omega
  have huse : aQ ts pts[a]! (pts[a]!.y.toNat : Nat) ≠ 0 := uD (by omega) hyn
  have hty : 2 ≤ ts[pts[a]!.y.toNat]! ∧ (pts[a]!.op = 5 → ts[pts[a]!.y.toNat]! ≠ 3) := by
   rcases h4 with h|h
   ·exact ⟨(PA.t4 h).2.2,fun q => by omega⟩
   ·have := (PA.t5 h).2.2;exact ⟨by omega,fun _ => by omega⟩
  have hxt : ts[pts[a]!.x.toNat]! ≠ 2 := by
   rcases h4 with h4|h4
   ·rw [(PA.t4 h4).1]; decide
   ·rw [(PA.t5 h4).1]; decide
  have hk : a7 s.cells s.slots[pts[a]!.y.toNat]!.ptr (decide (pts[a]!.op = 5)) = 0 := R.code w B ha hu hyl hty.1 huse (fun q => hty.2 (by simpa using q))
  have hsh := (B.sm.at (dK hk).2.2).tch s.slots[pts[a]!.y.toNat]!.ptr (decide (pts[a]!.op = 5))
  have hl : kZ s.cells s.slots[pts[a]!.y.toNat]!.ptr (decide (pts[a]!.op = 5)) = 0 := by
   unfold kZ;rw [if_pos hk,if_neg]
   have h5 := hsh.l
   have h6 := hsh.n
   unfold D3
   omega
  rw [if_pos hl]
  exact .inl ((B.w.cells (B.w.k.m.ln _ _) (B.w.h.ln B.w.k.m _ _) (FM _ _ _) (fun c hc => J9 _ _ _ c hc) _).put0 hxt _).2
 rw [if_neg h4]
 by_cases h6 : pts[a]!.op = 6
 ·rw [if_pos h6]
  have hyl : pts[a]!.y.toNat < ts.length := by have := hyb.2 (by omega) (by omega);omega
  have hxt : ts[pts[a]!.x.toNat]! ≠ 2 := by rw [(PA.t6 h6).1]; decide
  have hk : a7 s.cells s.slots[pts[a]!.y.toNat]!.ptr false = 0 := R.code w B ha hu hyl (PA.t6 h6).2 (uD (by omega) hyn) (fun q => by cases q)
  rw [if_pos hk]
  exact .inl ((B.w.cells (B.w.k.m.tch _ _) (B.w.h.tch B.w.k.m _ _) (mU _ _ _) (fun c hc => Fs _ _ _ c hc) _).put0 hxt _).2
 rw [if_neg h6]
 by_cases h7 : pts[a]!.op = 7
 ·rw [if_pos h7]
  have hyl : pts[a]!.y.toNat < ts.length := by have := hyb.2 (by omega) (by omega);omega
  obtain ⟨ht,ht'⟩ := PA.t7 h7
  have hk : a7 s.cells s.slots[pts[a]!.x.toNat]!.ptr true = 0 := R.code w B ha hu hxl (by omega) (OH h7 hxn) (fun _ => by omega)
  refine .inl ?_
  show kP _ = -1
  unfold kP qC;rw [if_pos (B.i _ hyl ht'),if_pos hk]
 rw [if_neg h7]
 have h8 : pts[a]!.op = 8 := by omega
 rw [if_pos h8]
 have hset := iI hu hxl (Ov h8 hxn)
 refine .inl ?_
 show kP _ = -1
 unfold kP;rw [if_pos (B.w.k0 hxl (PA.t2 (.inr h8)) hset true)]
theorem LB (w:WG ts pts) (A:WA ts pts) (I:Nat → Nat → Mc → Prop)
  (hI : ∀ n a s k,a < pts.length → pts[a]!.op ≠ 11 → cF pts a k → I (n + 1) a s → cA ts s pts[a]! = false → (bT ts s pts[a]!).2 = -1 → I n k (bT ts s pts[a]!).1) :
  ∀ n a cs s last,a < pts.length → I n a s → Ow ts pts (fun a s => ∃ n,I n a s) (gX ts pts (dH pts n a cs).1 s last) := by
 intro n
 induction n with
 | zero =>
  intro a cs s last ha hs
  by_cases h11 : pts[a]!.op = 11
  ·have e : (dH pts 0 a cs).1 = [a] := by unfold dH; rw [if_pos h11]
   rw [e]; exact pJ ha ⟨_,hs⟩ h11
  ·have e : (dH pts 0 a cs).1 = [] := by rw [dH, if_neg h11]
   rw [e]; exact .inl rfl
 | succ n ih =>
  intro a cs s last ha hs
  by_cases h11 : pts[a]!.op = 11
  ·have e : (dH pts (n + 1) a cs).1 = [a] := by unfold dH; rw [if_pos h11]
   rw [e]; exact pJ ha ⟨_,hs⟩ h11
  ·have e : (dH pts (n + 1) a cs).1 = a :: (dH pts n (g0 pts a cs).1 (g0 pts a cs).2).1 := by rw [dH, if_neg h11]
   have he := wZ w A ha h11 cs
   rw [e]
   exact A8 ha ⟨_,hs⟩ fun h1 h2 => ih _ _ _ _ (cT w he) (hI n a s _ ha h11 he hs h1 h2)
def Rt (pts : List Pnt) (c b : Nat) : Prop := Clo (fun b => cF pts c b) (fun a b => cF pts a b) b
structure Jv (ts : List Int) (pts : List Pnt) (n a : Nat) (s : Mc) : Prop where
 b : ∃ N : Int,1 ≤ N ∧ N + n ≤ 198 ∧ Bs ts N s
 v : Vs ts pts a s
 r : (∃ c L,Cf ts pts c L ∧ Rt pts c a) ∨ RfI ts (fun v => Nd ts pts (a,v)) (Ln ts pts a) s.slots s.cells
theorem Jv.start {n:Nat}(hn:n ≤ 197):Jv ts pts n 0 (mc0 ts.length):=by
 have e : ∀ v, v < ts.length → (mc0 ts.length).slots[v]! = gD := fun v hv => by
  show (List.replicate ts.length gD)[v]! = gD
  rw [aZ _ _ (by simpa using hv)]; simp
 refine ⟨⟨1,by omega,by omega,Own.start ts,fun v hv _ => ?_,fun c hc => ?_,fun v hv _ h => ?_,fun v u hv hul _ _ h => ?_⟩,Vs.start,.inr ⟨fun v hv _ h => ?_,fun v u hv hul _ _ h => ?_⟩⟩
 ·rw [e v hv]; exact ⟨by decide,by decide⟩
 ·have : c ∈ ([] : List Cl) := hc
  cases this
 all_goals (rw [e v hv] at h;cases h)
theorem KO (w:WG ts pts) (A:WA ts pts) (cs:List Int) (n:Nat) (hn:n ≤ 197) (h:(dI ts pts cs n).2.1 = 3 ∨ (dI ts pts cs n).2.1 = 4):∃ c L,Cf ts pts c L ∧ Rt pts c (dI ts pts cs n).2.2:=by
 have ho := LB w A (Jv ts pts) (fun n a s k ha h11 he hJ hu hgo => by
  obtain ⟨⟨N,hN1,hN2,B⟩,V,R⟩ := hJ
  refine ⟨⟨N + 1,by omega,by omega,B.step w A ha h11 hN1 hu hgo⟩,V.step w A a s k ha h11 he hu hgo,?_⟩
  rcases R with ⟨c,L,h1,h2⟩ | R
  ·exact .inl ⟨c,L,h1,.step h2 he⟩
  ·by_cases hC : ∃ L, Cf ts pts a L
   ·obtain ⟨L, hL⟩ := hC
    exact .inl ⟨a,L,hL,.base he⟩
   ·exact .inr (R.step w A he h11 B V (fun L hL => hC ⟨L,hL⟩) hu hgo)) n 0 cs (mc0 ts.length) 0 w.p0 (Jv.start hn)
 change Ow ts pts _ (dI ts pts cs n) at ho
 rcases ho with ho | ⟨s',h0,⟨m,J⟩,⟨h3,_⟩ | ⟨h3,h4,h5,h6⟩⟩
 ·omega
 ·omega
 ·rcases J.r with hr | R
  ·exact hr
  ·exfalso
   obtain ⟨N,hN1,hN2,B⟩ := J.b
   by_cases q : pts[(dI ts pts cs n).2.2]!.op = 11
   ·rw [uV q,(Own.fin ts.length 0 s' B.w (by omega) (fun u hu => by omega)).1] at h6;omega
   ·rcases NT w A h0 q (by omega) B R h3 with e | e
    ·exact h4 e
    ·omega
end
section
variable {ts : List Int} {pts : List Pnt} {a : Nat} {s : Mc}
theorem H8 {f:Flows ts pts}{i:Iss}(ha:a < pts.length) (h:i ∈ Hq ts pts f.Aa f.Am f.Al f.Af f.Ap a):i ∈ f.iss := List.mem_flatMap.2 ⟨a,List.mem_range.2 ha,h⟩
theorem Mk {x:Pnt}{v:Nat}:(iN x).testBit v = decide (aM x = (v:Int)):=by
 unfold iN
 split
 ·rw [Nat.testBit_two_pow,decide_eq_decide]; omega
 ·rw [Nat.zero_testBit]; exact (decide_eq_false (by omega)).symm
theorem PN (w:WG ts pts) (f:Flows ts pts){L:Nat}(ha:a < pts.length) (h:Cf ts pts a L):(⟨a,if pts[L]!.op = 5 then 3 else 2,L⟩:Iss) ∈ f.iss:=by
 obtain ⟨v,u,wr,hk,hA,hf,hp,hy,hw⟩ := h
 obtain ⟨hl,hln⟩ := sT hp
 dsimp only at hl hln
 obtain ⟨_,hvl,_⟩ := CL w hf
 dsimp only at hvl
 have htl := w.tl
 have hpl := w.pl
 have hyw := w.y L hl
 have hx := w.x a ha
 have hya := w.y a ha
 refine H8 ha (List.mem_append_right _ (List.mem_map.2 ⟨(L : Int),cK.2 ⟨L,by omega,?_,rfl⟩,by rw [Int.toNat_natCast]⟩))
 rw [KH w f ha hl hln,Bool.and_eq_true,Bool.and_eq_true]
 refine ⟨List.any_eq_true.2 ?_,?_,(f.gp.2 a ha L).2 hp⟩
 ·have near : ∀ c : Acc, c.var = (u : Int) → c.write = wr → Bl pts L c = true := fun c h1 h2 => by
   unfold Bl
   rw [h1,h2,hy,decide_eq_true rfl,Bool.true_and]
   rcases hw with h|h
   ·rw [h]; rfl
   ·rw [decide_eq_true h]; simp
  unfold jI
  rcases hA with ⟨h,e,e2⟩ | ⟨h,e,e2⟩ | ⟨h,e,e2⟩ | ⟨h,ht,e,e2⟩ | ⟨h,ht,hm,e2⟩
  ·exact ⟨⟨pts[a]!.y,false⟩,List.mem_append_left _ (by rw [if_pos h]; simp),near _ e e2.symm⟩
  ·exact ⟨⟨pts[a]!.y,true⟩,List.mem_append_left _ (by rw [if_neg (by omega),if_pos h]; simp),near _ e e2.symm⟩
  ·exact ⟨⟨pts[a]!.x,true⟩,List.mem_append_left _ (by rw [if_neg (by omega),if_neg (by omega),if_pos h]; simp),near _ e e2.symm⟩
  ·refine ⟨⟨pts[a]!.y, true⟩, List.mem_append_left _ ?_, near _ e e2.symm⟩
   rw [if_neg (by omega),if_neg (by omega),if_neg (by omega),if_pos ⟨h,by rw [e,Int.toNat_natCast]; exact ht⟩]; simp
  ·refine ⟨⟨aM pts[a]!, true⟩, List.mem_append_right _ ?_, near _ h e2.symm⟩
   rw [if_pos ⟨by omega,by rw [h,Int.toNat_natCast]; exact ht,by rw [h,Int.toNat_natCast]; exact (f.gm.2 a ha u).2 hm⟩]; simp
 ·unfold x9
  rw [iT]
  refine .inr ⟨(v : Int),cK.2 ⟨v,by omega,?_,rfl⟩,?_⟩
  ·rw [cR, (f.gl.2 a ha v).2 hk.1, Bool.true_and, Nat.testBit_or, cD, Mk, decide_eq_false hk.2.1]
   have : decide (aQ ts pts[a]! v ∈ ([2] : List Int)) = false := decide_eq_false (by simpa using hk.2.2)
   rw [this]; simp
  ·rw [Int.toNat_natCast, fH f.gf.1 ha (by omega)]
   exact (f.gf.2 a v ha (by omega) L).2 hf
theorem Me (w:WG ts pts) (f:Flows ts pts) (ha:a < pts.length) (V:Vs ts pts a s) (h:cA ts s pts[a]! = true):∃ v:Nat,(⟨a,1,v⟩:Iss) ∈ f.iss:=by
 obtain ⟨v,hv,hu,hf⟩ := uH h
 have htl := w.tl
 refine ⟨v,H8 ha (List.mem_append_left _ (List.mem_map.2 ⟨(v : Int),cK.2 ⟨v,by omega,?_,rfl⟩,rfl⟩))⟩
 rw [cR,cD,decide_eq_true hv,Bool.true_and,Bool.and_eq_true]
 refine ⟨decide_eq_true (by have := nB ts pts[a]! v;simp only [List.mem_cons,List.not_mem_nil,or_false]; omega),?_⟩
 have := f.ga.2 a ha v
 cases q : f.Aa[a]!.testBit v with
 | false => rfl
 | true => exact absurd (V.u v hv hf) ((this.1 q).2)
theorem HM (w:WG ts pts) (A:WA ts pts) (cs:List Int) (n:Nat):(dI ts pts cs n).2.1 = 0 ∨ (dI ts pts cs n).2.1 = 1 ∨ (dI ts pts cs n).2.1 = 2 ∨ (dI ts pts cs n).2.1 = 3 ∨ (dI ts pts cs n).2.1 = 4:=by
 have h := FA w A (Vs ts pts) (Vs.step w A) n 0 cs (mc0 ts.length) 0 w.p0 Vs.start
 change Ow ts pts (Vs ts pts) (dI ts pts cs n) at h
 rcases h with h | ⟨s',h0,hI,⟨h3,_⟩ | ⟨_,h4,_,h5⟩⟩
 ·exact .inr (.inl h)
 ·exact .inr (.inr (.inl h3))
 ·rw [h5]
  by_cases q : pts[(dI ts pts cs n).2.2]!.op = 11
  ·rw [uV q]
   rcases nW ts ts.length 0 s' with e|e|e <;> (rw [e]; simp)
  ·rcases Jw (ts := ts) (s := s') q with e | e | e | e
   ·exact absurd e h4
   all_goals (rw [e]; simp)
theorem N4 (w:WG ts pts) (A:WA ts pts) (f:Flows ts pts) (cs:List Int) (n:Nat) (hn:n ≤ 197) (h:(dI ts pts cs n).2.1 ≠ 0 ∧ (dI ts pts cs n).2.1 ≠ 1) :
  ∃ (c : Nat) (i : Iss),i ∈ f.iss ∧ i.point = (c : Int) ∧ c < pts.length ∧ ((dI ts pts cs n).2.1 = 2 ∧ c = (dI ts pts cs n).2.2 ∨ (dI ts pts cs n).2.1 ≠ 2 ∧ i.kind ≠ 1 ∧ Rt pts c (dI ts pts cs n).2.2) := by
 by_cases h2 : (dI ts pts cs n).2.1 = 2
 ·have ho := FA w A (Vs ts pts) (Vs.step w A) n 0 cs (mc0 ts.length) 0 w.p0 Vs.start
  change Ow ts pts (Vs ts pts) (dI ts pts cs n) at ho
  rcases ho with ho | ⟨s',h0,hI,⟨_,h3,_⟩ | ⟨_,h4,_,h5⟩⟩
  ·rw [ho] at h2;cases h2
  ·obtain ⟨v, hv⟩ := Me w f h0 hI h3
   exact ⟨_,_,hv,rfl,h0,.inl ⟨h2,rfl⟩⟩
  ·rw [h2] at h5
   by_cases q : pts[(dI ts pts cs n).2.2]!.op = 11
   ·rw [uV q] at h5
    rcases nW ts ts.length 0 s' with e|e|e <;> (rw [e] at h5;cases h5)
   ·rcases Jw (ts := ts) (s := s') q with e|e|e|e <;> (rw [e] at h5;cases h5)
 ·have hc := HM w A cs n
  obtain ⟨c,L,h3,h4⟩ := KO w A cs n hn (by omega)
  have hcl : c < pts.length := by
   clear h3 hc h h2
   generalize (dI ts pts cs n).2.2 = b at h4
   induction h4 with
   | base h => exact h.1
   | step _ _ ih => exact ih
  refine ⟨c,_,PN w f hcl h3,rfl,hcl,.inr ⟨h2,?_,h4⟩⟩
  dsimp only
  split <;> decide
theorem HD (w:WG ts pts) (A:WA ts pts) (f:Flows ts pts) (cs:List Int) (n:Nat) (hn:n ≤ 197) (h:f.iss = []):(dI ts pts cs n).2.1 = 0 ∨ (dI ts pts cs n).2.1 = 1:=by
 apply Classical.byContradiction;intro q
 obtain ⟨c,i,hi,_⟩ := N4 w A f cs n hn ⟨fun e => q (.inl e),fun e => q (.inr e)⟩
 rw [h] at hi;cases hi
end
open Go.RowKit Go.MapKept
def RO (r : Nat) (ks : List Int) (w : World) : Prop := ∃ es ck,w.heap[r]? = some (.map es ck) ∧ ∀ e ∈ es.toList,∃ k ∈ ks,e.key = .int .i64 k
structure GsM (C : Ctx) (s : AS) (r : Nat) (ks : List Int) (a : Act) (w : World) : Prop where
 g : Gs C s a w
 m : RO r ks w
 l : C.w0.heap.size ≤ r
theorem Fr.trans2 {W0 W1:Nat → Prop}{w0 w w':World}(h:Fr W0 w0 w) (k:Fr W1 w w') (hW:∀ b,W1 b → W0 b ∨ w0.heap.size ≤ b):Fr W0 w0 w' :=
 ⟨k.os.trans h.os, k.tape.trans h.tape, k.output.trans h.output, Nat.le_trans h.size k.size, fun b hb hw => by
  rw [k.block b (Nat.lt_of_lt_of_le hb h.size) (fun q => (hW b q).elim hw (fun h => by omega))]; exact h.block b hb hw,fun b => Nat.le_trans (h.bs b) (k.bs b)⟩
theorem GsM.base {C:Ctx}{s:AS}{r:Nat}{ks:List Int}{a:Act}{w:World}(h:GsM C s r ks a w):∃ C':Ctx,C'.N = C.N ∧ Gs C' s a w ∧ ∀ s' a' w',Gs C' s' a' w' → GsM C s' r ks a' w':=by
 obtain ⟨⟨h0,ι,g,gh⟩,⟨es,ck,hm,hk⟩,hl⟩ := h
 let C' : Ctx := { C with w0 := w,W0 := fun b => ∃ id cs β,aV s.hs id = some cs ∧ ι id = some (some (b,β)),xlt := fun b hb => Nat.lt_of_lt_of_le (C.xlt b hb) gh.fr.size }
 have hW : ∀ b, C'.W0 b → C.W0 b ∨ C.w0.heap.size ≤ b := by
  rintro b ⟨id,cs,β,h1,h2⟩
  rcases gh.obj id cs h1 with ⟨h3,_⟩ | ⟨b',β',arr,e,h3,h4,h5,h6,h7,h8⟩
  ·rw [h3] at h2;cases h2
  ·rw [h3] at h2;cases h2;exact h8
 have hr : ¬ C'.W0 r := by
  rintro ⟨id,cs,β,h1,h2⟩
  rcases gh.obj id cs h1 with ⟨h3,_⟩ | ⟨b',β',arr,e,h3,h4,h5,h6,h7,h8⟩
  ·rw [h3] at h2;cases h2
  ·rw [h3] at h2;cases h2;rw [hm] at h4;cases h4
 refine ⟨C',rfl,⟨h0,ι,⟨g.df,g.sz,g.tm⟩,⟨fun id cs h => ?_,gh.sep,Fr.refl _ _,gh.ex,gh.fresh⟩⟩,?_⟩
 ·rcases gh.obj id cs h with h1 | ⟨b', β', arr, e, h3, h4, h5, h6, h7, h8⟩
  ·exact .inl h1
  ·exact .inr ⟨b',β',arr,e,h3,h4,h5,h6,h7,.inl ⟨id,cs,β',h,h3⟩⟩
 ·rintro s' a' w' ⟨h0', ι', g', gh'⟩
  have f : Fr C'.W0 w w' := gh'.fr
  refine ⟨⟨h0',ι',⟨g'.df,g'.sz,g'.tm⟩,⟨fun id cs h => ?_,gh'.sep,gh.fr.trans2 f hW,gh'.ex,gh'.fresh⟩⟩,⟨es,ck,by rw [f.block r (fA hm) hr]; exact hm,hk⟩,hl⟩
  rcases gh'.obj id cs h with h1 | ⟨b',β',arr,e,h3,h4,h5,h6,h7,h8⟩
  ·exact .inl h1
  ·refine .inr ⟨b', β', arr, e, h3, h4, h5, h6, h7, ?_⟩
   rcases h8 with h8|h8
   ·exact hW _ h8
   ·exact .inr (Nat.le_trans gh.fr.size h8)
def tL (P : Program) (N : Nat) (c : Code) (Q : Exit → AS → List Int → Prop) (r : Nat) (ks : List Int) (s : AS) : Prop :=
 ∀ (C : Ctx) (a : Act) (w : World),C.N = N → GsM C s r ks a w → c.wp P (fun e a' w' => ∃ s' ks',Q e s' ks' ∧ GsM C s' r ks' a' w') a w
def H3 (P : Program) (N : Nat) (all : Array Oper) (Q : Exit → AS → List Int → Prop) (r : Nat) (ks : List Int) (l : List Oper) (s : AS) : Prop :=
 ∀ (C : Ctx) (a : Act) (w : World),C.N = N → GsM C s r ks a w → wpList P all (fun e a' w' => ∃ s' ks',Q e s' ks' ∧ GsM C s' r ks' a' w') l a w
def vI (K : AS → List Int → Prop) (Q : Exit → AS → List Int → Prop) : Exit → AS → List Int → Prop
 | .normal,s,ks => K s ks
 | e,s,ks => Q e s ks
def L4 (id : Nat) (Q : Exit → AS → List Int → Prop) : Exit → AS → List Int → Prop
 | .exit i,s,ks => if i = id then Q .normal s ks else Q (.exit i) s ks
 | e,s,ks => Q e s ks
section
variable {P : Program} {N : Nat} {Q : Exit → AS → List Int → Prop} {s : AS} {r : Nat} {ks : List Int}
theorem pK {c:Code}(h:AW P N c (fun e s' => Q e s' ks) s):tL P N c Q r ks s:=by
 intro C a w hN g
 obtain ⟨C',h1,h2,h3⟩ := g.base
 exact wp_mono (h C' a w (h1.trans hN) h2) fun e a' w' ⟨s',q1,q2⟩ => ⟨s',ks,q1,h3 _ _ _ q2⟩
theorem lV {x y:Code}(h:tL P N x (vI (fun s' ks' => tL P N y Q r ks' s') Q) r ks s):tL P N (.seq x y) Q r ks s:=by
 intro C a w hN g
 refine wp_seq (wp_mono (h C a w hN g) ?_)
 rintro e a' w' ⟨s',ks',h1,h2⟩
 cases e with
 | normal => exact h1 C a' w' hN h2
 | _ => exact ⟨s',ks',h1,h2⟩
theorem BA {x y:Code}{c:Operand}{b:Bool}(hc:ev (lk s.ts) c = some (.v (.bool b))) (h1:b = true → tL P N x Q r ks s) (h2:b = false → tL P N y Q r ks s):tL P N (.cond c x y) Q r ks s:=by
 rintro C a w hN ⟨⟨h0,ι,g,gh⟩,hm,hl⟩
 have h := bV g hc
 simp only [Rd] at h
 cases b
 ·exact wp_cond_false h (h2 rfl C a w hN ⟨⟨h0,ι,g,gh⟩,hm,hl⟩)
 ·exact wp_cond_true h (h1 rfl C a w hN ⟨⟨h0,ι,g,gh⟩,hm,hl⟩)
theorem xQ {id:Nat}{c:Code}(h:tL P N c (L4 id Q) r ks s):tL P N (.block id c) Q r ks s:=by
 intro C a w hN g
 refine wp_block (wp_mono (h C a w hN g) ?_)
 rintro e a' w' ⟨s',ks',h1,h2⟩
 cases e with
 | exit i =>
  simp only [Exit.inBlock,L4] at h1 ⊢
  split
  ·rename_i hi;rw [if_pos hi] at h1;exact ⟨s',ks',h1,h2⟩
  ·rename_i hi;rw [if_neg hi] at h1;exact ⟨s',ks',h1,h2⟩
 | _ => exact ⟨s',ks',h1,h2⟩
theorem BK (h:Q .normal s ks):tL P N .skip Q r ks s := fun C a w _ g => wp_skip ⟨s,ks,h,g⟩
theorem Kk {id:Nat}(h:Q (.exit id) s ks):tL P N (.exit id) Q r ks s := fun C a w _ g => wp_exit ⟨s,ks,h,g⟩
theorem J1 {σ:Type}{c:Code}(p:σ → Prop) (I:σ → AS) (J:σ → List Int) (μ:σ → Nat) (h0:∃ i,p i ∧ Le s (I i) ∧ J i = ks)
  (round : ∀ i,p i → tL P N c (vI (fun s' ks' => ∃ j,p j ∧ μ j < μ i ∧ Le s' (I j) ∧ J j = ks') Q) r (J i) (I i)) : tL P N (.loop c) Q r ks s := by
 intro C a w hN g
 obtain ⟨i,h1,h2,h3⟩ := h0
 subst h3
 refine wp_loop (fun a w => ∃ i,p i ∧ GsM C (I i) r (J i) a w) (fun a w => pY fun n => ∃ i,p i ∧ GsM C (I i) r (J i) a w ∧ μ i = n) ⟨i,h1,⟨h2 C a w g.g,g.m,g.l⟩⟩ ?_
 rintro a w ⟨i0,hp0,hg0⟩
 obtain ⟨⟨i,hp,hg,hm⟩,hmin⟩ := jJ (S := fun n => ∃ i,p i ∧ GsM C (I i) r (J i) a w ∧ μ i = n) ⟨_,i0,hp0,hg0,rfl⟩
 refine wp_mono (round i hp C a w hN hg) ?_
 rintro e a' w' ⟨s',ks',h3,h4⟩
 cases e with
 | normal =>
  obtain ⟨j,q1,q2,q3,rfl⟩ := h3
  have h5 : GsM C (I j) r (J j) a' w' := ⟨q3 C a' w' h4.g,h4.m,h4.l⟩
  refine ⟨⟨j,q1,h5⟩,?_⟩
  have := (jJ (S := fun n => ∃ i,p i ∧ GsM C (I i) r (J i) a' w' ∧ μ i = n) ⟨_,j,q1,h5,rfl⟩).2 (μ j) ⟨j,q1,h5,rfl⟩
  omega
 | _ => exact ⟨s',ks',h3,h4⟩
theorem GN {σ:Type}{c:Code}{ts:List (Nat × AV)}{hs:List (Nat × Option (List AV))}{n:Nat}{z0:Lo}(kl:List Nat) (kt:List (Nat × AV)) (js:List Nat) (kh:List (Nat × Option (List AV)))
  (ot : σ → List (Nat × AV)) (oh : σ → List (Nat × Option (List AV))) (J : σ → List Int) (p : σ → Prop) (μ : σ → Nat) (i0 : σ) (h0 : p i0) (hJ : J i0 = ks) (hk : qH kl ts = kt) (hj : sB js hs = kh)
  (h1 : qF ts (ot i0)) (h2 : oI hs (oh i0))
  (round : ∀ i,p i → tL P N c (vI (fun s' ks' => ∃ j,p j ∧ μ j < μ i ∧ Le s' ⟨ot j ++ kt,oh j ++ kh,n,z0⟩ ∧ J j = ks') Q) r (J i) ⟨ot i ++ kt,oh i ++ kh,n,z0⟩) :
  tL P N (.loop c) Q r ks ⟨ts,hs,n,z0⟩ := by
 subst hk hj
 exact J1 p (fun i => ⟨ot i ++ qH kl ts,oh i ++ sB js hs,n,z0⟩) J μ ⟨i0,h0,Le.lit (nH h1 (nF kl)) (nG h2 (qN js)) (Nat.le_refl _),hJ⟩ round
theorem uM {id:Nat}{l:List Oper}(h:H3 P N l.toArray Q r ks l s):tL P N (.region id l.toArray false) Q r ks s :=
 fun C a w hN g => wp_region_lit (h C a w hN g)
variable {all : Array Oper}
theorem Qn {o:Oper}{a:Act}{w:World}{K K':Act → World → Prop}{Q1 Q2:Exit → Act → World → Prop}(h:∀ a w,K a w → K' a w) (hq:∀ e a w,Q1 e a w → e = .normal)
  (hh : o.wp P a w K Q1) : o.wp P a w K' Q2 := by
 have hL : ¬ LetsOut Q1 := fun ⟨a,w,q⟩ => by cases hq _ _ _ q
 unfold Oper.wp at *
 generalize (execOp a.eval o).run P w = z at *
 cases z with
 | ok n w' =>
  cases n <;> simp only [Oper.upon] at hh ⊢ <;>
   first
    | exact h _ _ hh
    | exact Calls.mono hh (fun e w'' he => by cases e <;> first|exact h _ _ he|(cases hq _ _ _ he)|exact absurd he hL)
    | exact Rows.mono hh (fun _ _ he => h _ _ he)
 | halt x w' => cases x <;> simp only [Oper.upon] at hh ⊢ <;> (cases hq _ _ _ hh)
theorem j4 {Q1 Q2:Exit → Act → World → Prop}{l2:List Oper}(k:∀ e a w,Q1 e a w → e = .normal ∧ wpList P all Q2 l2 a w):∀ (l1:List Oper) (a:Act) (w:World),wpList P all Q1 l1 a w → wpList P all Q2 (l1 ++ l2) a w
 | [],a,w,h => (k _ _ _ h).2
 | o :: l1, a, w, h => by
  have hL : ¬ LetsOut Q1 := fun ⟨a,w,q⟩ => by cases (k _ _ _ q).1
  rw [List.cons_append]
  unfold wpList at h ⊢
  split
  ·rename_i hw
   rw [if_pos hw] at h
   rcases h with h | ⟨_,h⟩
   ·exact .inl (Qn (fun a w => j4 k l1 a w) (fun e a w q => (k e a w q).1) h)
   ·exact absurd h hL
  ·rename_i hw;rw [if_neg hw] at h;exact j4 k l1 _ _ h
theorem Cg {l1 l2:List Oper}(h:RW P N all (fun e s' => e = .normal ∧ H3 P N all Q r ks l2 s') .txt l1 s):H3 P N all Q r ks (l1 ++ l2) s:=by
 intro C a w hN g
 obtain ⟨C',h1,h2,h3⟩ := g.base
 exact j4 (fun e a' w' ⟨s',⟨q1,q2⟩,q3⟩ => ⟨q1,q2 C a' w' hN (h3 _ _ _ q3)⟩) l1 a w (h C' a w (h1.trans hN) h2)
theorem Nk (h:Q .normal s ks):H3 P N all Q r ks [] s := fun C a w _ g => wpList_nil ⟨s,ks,h,g⟩
variable {rest : List Oper} {ts : List (Nat × AV)} {hs : List (Nat × Option (List AV))} {n : Nat} {z0 : Lo} {d : Nat} {ty : TypeId} {pos : String} {af : Array Edge}
theorem Gw {dst:Option Tmp}{op:Op}{j e:Nat}{want b:Bool}(hj:(all[j]?).bind (·.dst) = some e) (hb:lk s.ts e = some (.v (.bool b))) (hw:b = want) (h:H3 P N all Q r ks (⟨dst,op,ty,pos,af,none⟩ :: rest) s) :
  H3 P N all Q r ks (⟨dst,op,ty,pos,af,some (j,want)⟩ :: rest) s := by
 subst hw
 intro C a w hN g
 have h' := h C a w hN g
 obtain ⟨⟨h0,ι,g,gh⟩,hm,hl⟩ := g
 have hyl : yielded all a.tmps j = some b := by
  obtain ⟨y,hy,hr⟩ := g.tm e _ hb
  simp only [Rd] at hr
  subst hr
  simp [yielded,hj,hy]
 unfold wpList at h' ⊢
 simp only [Region.wanted,hyl,if_true,beq_self_eq_true] at h' ⊢
 exact h'
theorem sX {w:World}{mt kt et:TypeId}{es:Array MapEntry}{ck:Nat}{a:Int}(hu:P.underlying mt = some (.map kt et)) (hk:P.underlying kt = some (.int .i64)) (hz:(P.info? et).bind (·.zero) = some (.bool false))
  (hb : w.heap[r]? = some (.map es ck)) (hn : ∀ e ∈ es.toList,∃ k,k ≠ a ∧ e.key = .int .i64 k) : (Instr.lookup mt (.map (some r)) (.int .i64 a) false).run P w = .ok (.bool false) w ∧ Instr.findNow (.int .i64) (.int .i64 a) es.toList 0 = some none := by
 have hkey : IsKey (.int .i64) (.int .i64 a) := by simp [IsKey]
 have hf : Instr.findNow (.int .i64) (.int .i64 a) es.toList 0 = some none := by
  rcases findNow_spec hkey es.toList 0 (fun x hx => by obtain ⟨k,_,h2⟩ := hn x hx;rw [h2]; simp [IsKey]) with ⟨h,_⟩ | ⟨j,e,_,h2,h3⟩
  ·exact h
  ·obtain ⟨k, h4, h5⟩ := hn e (List.mem_of_getElem? h2)
   rw [h5] at h3;cases h3;exact absurd rfl h4
 refine ⟨?_,hf⟩
 cases hi : P.info? et with
 | none => rw [hi] at hz;cases hz
 | some i =>
  rw [hi] at hz
  have hz2 : i.zero = some (.bool false) := hz
  simp [Instr.lookup,bW hu,Go.MapKept.run_getObj_map hb,run_checkKey hk hkey,run_findKey hk hf,zeroValue,typeInfo,hi,hz2,Result.andThen]
theorem DD {mt kt et:TypeId}{x y:Operand}{a:Int}(hu:P.underlying mt = some (.map kt et)) (hk:P.underlying kt = some (.int .i64)) (hz:(P.info? et).bind (·.zero) = some (.bool false))
  (hx : ev (lk ts) x = some (.v (.map (some r)))) (hy : ev (lk ts) y = some (.v (.int .i64 a))) (ha : a ∉ ks) (hN : Nat.blt d N = true) (kk : H3 P N all Q r ks rest ⟨(d,.v (.bool false)) :: ts,hs,n,z0⟩) :
  H3 P N all Q r ks (⟨some d,.lookup mt x y false,ty,pos,af,none⟩ :: rest) ⟨ts,hs,n,z0⟩ := by
 rintro C ac w hCN ⟨⟨h0,ι,g,gh⟩,⟨es,ck,hm,hkk⟩,hl⟩
 refine wpList_plain rfl (fun K hK => ?_)
 have e1 := bV g hx
 have e2 := bV g hy
 simp only [Rd] at e1 e2
 have hr := (sX (P := P) hu hk hz hm (a := a) (fun e he => by obtain ⟨k,h1,h2⟩ := hkk e he;exact ⟨k,fun q => ha (q ▸ h1),h2⟩)).1
 have hop : (execOp ac.eval ⟨some d, .lookup mt x y false, ty, pos, af, none⟩).run P w = .ok (.value (.bool false)) w := by
  simp [execOp,e1,e2,hr]
 simp only [Oper.wp,hop,Oper.upon]
 refine hK _ _ (kk C _ _ hCN ⟨⟨h0,ι,?_,gh⟩,⟨es,ck,hm,hkk⟩,hl⟩)
 show TG C ι (lk ((d,_) :: ts)) _ _ _
 rw [iJ]
 exact g.put (by have := cS hN;omega) (by simp [Rd])
theorem Dw {mt kt et:TypeId}{x y z:Operand}{a:Int}(hu:P.underlying mt = some (.map kt et)) (hk:P.underlying kt = some (.int .i64)) (hz:(P.info? et).bind (·.zero) = some (.bool false))
  (hx : ev (lk ts) x = some (.v (.map (some r)))) (hy : ev (lk ts) y = some (.v (.int .i64 a))) (ha : a ∉ ks) (kk : H3 P N all Q r (ks ++ [a]) rest ⟨ts,hs,n,z0⟩) :
  H3 P N all Q r ks (⟨none,.mapUpdate mt x y z,ty,pos,af,none⟩ :: rest) ⟨ts,hs,n,z0⟩ := by
 rintro C ac w hCN ⟨⟨h0,ι,g,gh⟩,⟨es,ck,hm,hkk⟩,hl⟩
 refine wpList_plain rfl (fun K hK => ?_)
 have e1 := bV g hx
 have e2 := bV g hy
 simp only [Rd] at e1 e2
 have hkey : IsKey (.int .i64) (.int .i64 a) := by simp [IsKey]
 have hf := (sX (P := P) hu hk hz hm (a := a) (fun e he => by obtain ⟨k,h1,h2⟩ := hkk e he;exact ⟨k,fun q => ha (q ▸ h1),h2⟩)).2
 let o2 : Obj := .map (es.push { key := .int .i64 a,val := ac.eval z,born := ck }) (ck + 1)
 let w2 : World := { w with heap := w.heap.setIfInBounds r o2 }
 have hop : (execOp ac.eval ⟨none, .mapUpdate mt x y z, ty, pos, af, none⟩).run P w = .ok .skip w2 := by
  simp [execOp,e1,e2,Instr.mapUpdate,bW hu,Go.MapKept.run_getObj_map hm,run_checkKey hk hkey,run_findKey hk hf,Go.MapKept.run_setObj_map _ hm,Result.andThen,w2,o2]
 obtain ⟨hs1,hs2⟩ := heap_set (o' := o2) hm
 have hne : ∀ b c e f,w.heap[b]? = some (.cells c e f) → b ≠ r := fun b c e f h q => by subst q;rw [hm] at h;cases h
 have hbs : ∀ b, tB w2 b = tB w b := fun b => by
  by_cases e : b = r
  ·subst e;show (match w2.heap[b]? with|some (.cells c _ _) => c.size | _ => 0) = _; rw [show w2.heap[b]? = some o2 from hs1]; simp [tB,hm,o2]
  ·exact p8 (hs2 b e)
 have hcell : ∀ b o v, w.cell? ⟨b, o, none⟩ = some v → w2.cell? ⟨b, o, none⟩ = some v := fun b o v h => by
  have : b ≠ r := fun q => by subst q;rw [World.cell?] at h;simp [hm] at h
  rw [dG (hs2 b this)]; exact h
 have car : ∀ bad : Nat → Prop,Carry w bad ι w2 bad ι := fun bad => ⟨fun b o v h1 h2 => ⟨h1,hcell b o v h2⟩,fun _ _ h => h,fun b => Nat.le_of_eq (hbs b).symm⟩
 simp only [Oper.wp,hop,Oper.upon]
 refine hK _ _ (kk C _ _ hCN ⟨⟨h0,ι,?_,?_⟩,⟨_,_,hs1,?_⟩,hl⟩)
 ·exact g.carry (car _)
 ·refine ⟨fun id cs h => ?_, gh.sep, ⟨gh.fr.os, gh.fr.tape, gh.fr.output, by show C.w0.heap.size ≤ (w.heap.setIfInBounds r o2).size; rw [Array.size_setIfInBounds]; exact gh.fr.size, fun b hb hw => ?_, fun b => by rw [hbs]; exact gh.fr.bs b⟩, gh.ex, gh.fresh⟩
  ·rcases gh.obj id cs h with h1 | ⟨b', β', arr, e, h3, h4, h5, h6, h7, h8⟩
   ·exact .inl h1
   ·exact .inr ⟨b',β',arr,e,h3,by rw [show w2.heap[b']? = w.heap[b']? from hs2 b' (hne _ _ _ _ h4)]; exact h4,h5,RdC.carryB (car _) _ _ _ (fun o v hv => hcell b' o v hv) h6,h7,h8⟩
  ·rw [show w2.heap[b]? = w.heap[b]? from hs2 b (by omega)]; exact gh.fr.block b hb hw
 ·intro e he
  rw [Array.toList_push,List.mem_append,List.mem_singleton] at he
  rcases he with he|rfl
  ·obtain ⟨k,h1,h2⟩ := hkk e he;exact ⟨k,List.mem_append_left _ h1,h2⟩
  ·exact ⟨a,by simp,rfl⟩
theorem KG {Q:Exit → AS → Prop}{id:Nat}{t:TypeId}{y:Code}(hN:Nat.blt d N = true)
  (h : ∀ r,H3 P N (⟨some d,.makeMap t none,ty,pos,af,none⟩ :: rest).toArray (fun e s' ks' => e = .normal ∧ tL P N y (fun e s' _ => Q e s') r ks' s') r [] rest ⟨(d,.v (.map (some r))) :: ts,hs,n,z0⟩) :
  AW P N (.seq (.region id (⟨some d,.makeMap t none,ty,pos,af,none⟩ :: rest).toArray false) y) Q ⟨ts,hs,n,z0⟩ := by
 rintro C ac w hCN ⟨h0,ι,g,gh⟩
 refine wp_seq (wp_region_lit (wpList_plain rfl (fun K hK => ?_)))
 have hop : (execOp ac.eval ⟨some d, .makeMap t none, ty, pos, af, none⟩).run P w = .ok (.value (.map (some w.heap.size))) (w.alloc (.map #[] 0)) := by
  simp [execOp,Instr.makeMap,newObj,Sem.run]
 have f : Fr (fun _ => False) w (w.alloc (.map #[] 0)) := by
  refine ⟨rfl,rfl,rfl,by simp,fun b hb _ => Below.heap_alloc w _ b hb,fun b => ?_⟩
  rcases Nat.lt_or_ge b w.heap.size with hb|hb
  ·rw [p8 (Below.heap_alloc w _ b hb)]; exact Nat.le_refl _
  ·simp [tB,Array.getElem?_eq_none hb]
 obtain ⟨g2,c2⟩ := gh.ext f
 simp only [Oper.wp,hop,Oper.upon]
 refine hK _ _ ?_
 have hh := h w.heap.size C (ac.put (some d) (.map (some w.heap.size))) (w.alloc (.map #[] 0)) hCN ⟨⟨h0,ι,?_,g2⟩,⟨#[],0,heap_alloc_new w _,by simp⟩,gh.fr.size⟩
 ·have := j4 (l2 := []) (P := P) (Q2 := Exit.then (y.wp P (fun e a' w' => ∃ s', Q e s' ∧ Gs C s' a' w')) (fun e a' w' => ∃ s', Q e s' ∧ Gs C s' a' w')) (all := (⟨some d, .makeMap t none, ty, pos, af, none⟩ :: rest).toArray)
   (k := fun e a' w' ⟨s', ks', ⟨q1, q2⟩, q3⟩ => ⟨q1, by
    subst q1
    exact wpList_nil (wp_mono (q2 C a' w' hCN q3) (fun e a'' w'' ⟨s'',ks'',u1,u2⟩ => ⟨s'',u1,u2.g⟩))⟩) rest _ _ hh
  rw [List.append_nil] at this
  exact this
 ·show TG C ι (lk ((d, _) :: ts)) _ _ _
  rw [iJ]
  exact (g.carry c2).put (by have := cS hN;omega) (by simp [Rd])
theorem K0 {K K2:AS → List Int → Prop}{id:Nat}(h:Q .normal s ks):vI K (vI K2 (L4 id Q)) (.exit id) s ks:=by
 have e : vI K (vI K2 (L4 id Q)) (.exit id) s ks = (if id = id then Q .normal s ks else Q (.exit id) s ks) := rfl
 rw [e,if_pos rfl]; exact h
theorem Jp {Q:Exit → AS → Prop}{id:Nat}{t:TypeId}{y:Code}(h:Stop (AW P N (.seq (.region id (⟨some d,.makeMap t none,ty,pos,af,none⟩ :: rest).toArray false) y) Q s)) :
  AW P N (.seq (.region id (⟨some d,.makeMap t none,ty,pos,af,none⟩ :: rest).toArray false) y) Q s := h
theorem PM {Q:Exit → AS → Prop}{c:Code}(h:AW P N c Q s):Stop (AW P N c Q s) := h
theorem Cm {l:List Oper}(h:RW P N all (fun e s' => e = .normal ∧ Q e s' ks) .txt l s):H3 P N all Q r ks l s:=by
 intro C a w hN g
 obtain ⟨C',h1,h2,h3⟩ := g.base
 have := j4 (l2 := []) (P := P) (all := all) (Q1 := fun e a' w' => ∃ s', (e = .normal ∧ Q e s' ks) ∧ Gs C' s' a' w') (Q2 := fun e a' w' => ∃ s' ks', Q e s' ks' ∧ GsM C s' r ks' a' w')
  (k := fun e a' w' ⟨s',⟨q1,q2⟩,q3⟩ => ⟨q1,by subst q1;exact wpList_nil ⟨s',ks,q2,h3 _ _ _ q3⟩⟩) l a w (h C' a w (h1.trans hN) h2)
 rwa [List.append_nil] at this
end
variable {P : Program} {N : Nat} {Q : Exit → AS → Prop} {all : Array Oper} {rest : List Oper} {ts : List (Nat × AV)} {hs : List (Nat × Option (List AV))} {n : Nat} {z0 : Lo} {md : Md}
variable {d : Nat} {ty : TypeId} {pos : String} {af : Array Edge}
section
theorem jQ {α:Type}{hα:Inhabited α}{f g:α → List AV}{xs:List α}{e id k j z:Nat}{t:TypeId}{x:Operand}{cs':List AV}[ha:AgT P t true] [hz:SzT P t z] (hx:ev (lk ts) x = some (.optr id (0 + k * e + j)))
  (hH : aV hs id = some (flat f xs)) (hf : FlT f e) (hg : FE f g) (hk : k < xs.length) (hj : j + z ≤ e) (hc : ((g xs[k]!).drop j).take z = cs') (h0 : Nat.blt 0 z = true) (hN : Nat.blt d N = true) {md' : Md} [hmd : MdA md (rO x ++ rA (.optr id (0 + k * e + j))) [.inl d] md']
  (kk : RW P N all Q md' rest ⟨(d,.agg cs') :: ts,hs,n,z0⟩) : RW P N all Q md (⟨some d,.load t x,ty,pos,af,none⟩ :: rest) ⟨ts,hs,n,z0⟩ := by
 have hl : (g xs[k]!).length = e := by rw [← hg.pf]; exact hf.pf _
 subst hc
 refine k5 (cs := (flat f xs).drop (0 + k * e + j)) hx ha.pf hz.pf (by simp only [deref,hH,Option.map_some]) (cs' := ((g xs[k]!).drop j).take z) ?_ (by rw [List.length_take,List.length_drop,hl]; omega) (by have := cS h0;omega) (cS hN) (by rw [hmd.pf]; exact kk)
 rw [Nat.zero_add,← List.drop_drop,fJ f xs k hk,← hg.pf,List.drop_append_of_le_length (by rw [hf.pf]; omega),List.take_append_of_le_length (by rw [List.length_drop,hf.pf]; omega)]
end
theorem HS (c:Int):gL .and .i64 c 1 = some (.int .i64 (c % 2)):=by
 have h : (BitVec.ofInt 64 c &&& BitVec.ofInt 64 1).toNat = (c % 2).toNat := by
  rw [BitVec.toNat_and,show (BitVec.ofInt 64 1).toNat = 1 from rfl,Nat.and_one_is_mod,BitVec.toNat_ofInt]
  omega
 have e : gL .and .i64 c 1 = some (.int .i64 (IntKind.i64.wrap ((BitVec.ofInt 64 c &&& BitVec.ofInt 64 1).toNat : Int))) := rfl
 rw [e,h]
 rcases Int.emod_two_eq c with h2|h2 <;> rw [h2] <;> rfl
section
theorem Mv {t t':TypeId}{x y:Operand}{c:Int}(hx:ev (lk ts) x = some (.v (.int .i64 c))) (hy:ev (lk ts) y = some (.v (.int .i64 1)))
  (hN : Nat.blt d N = true) {md' : Md} [hmd : MdA md (rO x ++ rO y) [.inl d] md'] (kk : RW P N all Q md' rest ⟨(d,.v (.int .i64 (c % 2))) :: ts,hs,n,z0⟩) : RW P N all Q md (⟨some d,.binOp .and t x y t',ty,pos,af,none⟩ :: rest) ⟨ts,hs,n,z0⟩ :=
 dX hx hy (.inl rfl) (HS c) (cS hN) (by rw [hmd.pf]; exact kk)
end
theorem HQ {P:Program}{N:Nat}{Q:Exit → AS → Prop}{all:Array Oper}{rest:List Oper}{ts:List (Nat × AV)}{hs:List (Nat × Option (List AV))}{n:Nat}{z0:Lo}{d:Nat}{ty:TypeId}{pos:String}{af:Array Edge}
  {t t' el : TypeId} {x : Operand} {id off m e : Nat} [ht : SlT P t el] (hx : ev (lk ts) x = some (.own id off m e)) (hN : Nat.blt d N = true)
  (kk : ∀ b : Bool,(b = true → m = 0) → RW P N all Q .txt rest ⟨(d,.v (.bool b)) :: ts,hs,n,z0⟩) : RW P N all Q .txt (⟨some d,.binOp .eql t x (.const (.slice none 0 0)) t',ty,pos,af,none⟩ :: rest) ⟨ts,hs,n,z0⟩ := by
 rintro C a w hCN ⟨h0,ι,g,gh⟩
 refine wpList_plain rfl (fun K hK => ?_)
 have h1 := bV g hx
 simp only [Rd] at h1
 obtain ⟨a', m', c, h2, hb⟩ : ∃ a' m' c, a.eval x = .slice a' m' c ∧ (a'.isNone = true → m = 0) := by
  rcases h1 with ⟨_,rfl,a',h2⟩ | ⟨b,β,c,_,h2,_⟩
  ·exact ⟨a',0,0,h2,fun _ => rfl⟩
  ·exact ⟨_,m,c,h2,fun h => by cases h⟩
 have hu := iB ht.pf
 have hg : (eqGuard .eql t x (.const (.slice none 0 0)) (.slice a' m' c) (.slice none 0 0)).run P w = .ok () w := by simp [eqGuard]
 have hr : (execOp a.eval ⟨some d, .binOp .eql t x (.const (.slice none 0 0)) t', ty, pos, af, none⟩).run P w = .ok (.value (.bool a'.isNone)) w := by
  have e2 : a.eval (.const (.slice none 0 0)) = .slice none 0 0 := rfl
  simp only [execOp,h2,e2,Sem.run_bind,hg,Result.andThen_ok,yX w t el hu,Sem.run_pure]
 simp only [Oper.wp,hr,Oper.upon]
 refine hK _ _ (kk a'.isNone hb C _ _ hCN ⟨h0,ι,?_,gh⟩)
 show TG C ι (lk ((d,AV.v (.bool a'.isNone)) :: ts)) _ _ _
 rw [iJ]
 exact g.put (by have := cS hN;omega) (by simp [Rd])
end Go.AL
