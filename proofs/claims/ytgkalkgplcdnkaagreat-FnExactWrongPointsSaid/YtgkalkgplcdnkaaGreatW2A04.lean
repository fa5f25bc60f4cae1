/-
 A part of the proofs over this program: rules and contracts of its functions (the rules).
-/
import Derived.Test.YtgkalkgplcdnkaaGreatW2A03
import Derived.Laws.BytesString
import Derived.Laws.StructEq
set_option linter.unusedVariables false
set_option linter.unusedSimpArgs false
namespace Go.AL
open Go.RowKit
theorem hO {i:Nat}{hs:List (Nat × Option (List AV))}{id:Nat}{cs:List AV}(h:aO ((i,none) :: hs) id = some cs):aO hs id = some cs ∧ id ≠ i:=by
 rw [dS] at h
 split at h
 ·cases h
 ·rename_i e;exact ⟨h,e⟩
theorem Le.frzD {ts:List (Nat × AV)}{hs:List (Nat × Option (List AV))}{n:Nat}{z0:Lo}{d i m e:Nat}{cs:List AV}(hd:lk ts d = some (.own i 0 m e)) (hi:aO hs i = some cs) :
  Le ⟨ts,hs,n,z0⟩ ⟨(d,.imm m cs) :: ts,(i,none) :: hs,n,z0⟩ := by
 rintro C a w ⟨h0,ι,g,gh⟩
 obtain ⟨gh',car⟩ := gh.less (F' := Fn n z0) (H' := aO ((i,none) :: hs)) (fun id c h => (hO h).1) (fun _ h => h)
 refine ⟨h0,ι,⟨g.df,g.sz,fun t av ht => ?_⟩,gh'⟩
 rw [show lk (⟨(d,.imm m cs) :: ts,(i,none) :: hs,n,z0⟩ : AS).ts t = lk ((d,.imm m cs) :: ts) t from rfl,kI] at ht
 split at ht
 ·rename_i et
  subst et
  cases ht
  obtain ⟨y,hy,hr⟩ := g.tm t _ hd
  refine ⟨y,hy,?_⟩
  simp only [Rd] at hr ⊢
  rcases hr with ⟨_,h2,a',h3⟩ | ⟨b,β,c,h1,h2,h3,h4⟩
  ·subst h2;exact ⟨a',0,h3,.inl rfl⟩
  ·refine ⟨_, c, h2, ?_⟩
   rcases Nat.eq_zero_or_pos m with h5|h5
   ·exact .inl h5
   ·refine .inr ⟨b, β + 0, h3, rfl, ?_⟩
    rcases gh.obj i cs hi with ⟨q1,q2⟩ | ⟨b',β',arr,e',q1,q2,q3,q4,q5,q6⟩
    ·rw [h1] at q1;cases q1
    ·rw [h1] at q1; cases q1
     refine .inr ⟨?_,RdC.carryB car _ _ _ (fun o x hx => hx) q4⟩
     rintro (h | ⟨id',cs',β',r1,r2⟩)
     ·exact q5 h
     ·exact (hO r1).2 (gh.sep _ _ _ _ _ _ _ (hO r1).1 hi r2 h1)
 ·obtain ⟨y, hy, hr⟩ := g.tm t av ht
  exact ⟨y,hy,Rd.carry car _ _ hr⟩
theorem Le.frzP {ts:List (Nat × AV)}{hs:List (Nat × Option (List AV))}{n:Nat}{z0:Lo}{d i:Nat}{cs:List AV}(hd:lk ts d = some (.optr i 0)) (hi:aO hs i = some cs) :
  Le ⟨ts,hs,n,z0⟩ ⟨(d,.iptr cs) :: ts,(i,none) :: hs,n,z0⟩ := by
 rintro C a w ⟨h0,ι,g,gh⟩
 obtain ⟨gh',car⟩ := gh.less (F' := Fn n z0) (H' := aO ((i,none) :: hs)) (fun id c h => (hO h).1) (fun _ h => h)
 refine ⟨h0,ι,⟨g.df,g.sz,fun t av ht => ?_⟩,gh'⟩
 rw [show lk (⟨(d,.iptr cs) :: ts,(i,none) :: hs,n,z0⟩ : AS).ts t = lk ((d,.iptr cs) :: ts) t from rfl,kI] at ht
 split at ht
 ·rename_i et
  subst et
  cases ht
  obtain ⟨y,hy,hr⟩ := g.tm t _ hd
  refine ⟨y,hy,?_⟩
  simp only [Rd] at hr ⊢
  obtain ⟨b,β,h1,h2⟩ := hr
  refine ⟨b,β + 0,h2,?_⟩
  rcases gh.obj i cs hi with ⟨q1,q2⟩ | ⟨b',β',arr,e',q1,q2,q3,q4,q5,q6⟩
  ·rw [h1] at q1;cases q1
  ·rw [h1] at q1; cases q1
   refine .inr ⟨?_,RdC.carryB car _ _ _ (fun o x hx => hx) q4⟩
   rintro (h | ⟨id',cs',β',r1,r2⟩)
   ·exact q5 h
   ·exact (hO r1).2 (gh.sep _ _ _ _ _ _ _ (hO r1).1 hi r2 h1)
 ·obtain ⟨y, hy, hr⟩ := g.tm t av ht
  exact ⟨y,hy,Rd.carry car _ _ hr⟩
theorem Le.nilOwn {ts:List (Nat × AV)}{hs:List (Nat × Option (List AV))}{n:Nat}{z0:Lo}{d:Nat}(e:Nat) (hd:lk ts d = some (.v (.slice none 0 0))) (hn:n < cW) :
  Le ⟨ts,hs,n,z0⟩ ⟨(d,.own n 0 0 e) :: ts,(n,some []) :: hs,n + 1,z0⟩ := by
 rintro C a w ⟨h0,ι,g,gh⟩
 have hf : ι n = none := gh.fresh n ⟨Nat.le_refl _,.inl hn⟩
 let ι' : Pl := dB ι n (some none)
 have hne : ∀ id p, ι id = some p → ι' id = some p := by
  intro id p h
  have : id ≠ n := by rintro rfl;rw [hf] at h;cases h
  simp only [ι',bB _ _ this,h]
 have hback : ∀ id b β, ι' id = some (some (b, β)) → id ≠ n ∧ ι id = some (some (b, β)) := by
  intro id b β h
  by_cases q : id = n
  ·subst q;simp only [ι',upd_same] at h;cases h
  ·simp only [ι',bB _ _ q] at h;exact ⟨q,h⟩
 have hH : ∀ id cs, id ≠ n → aO ((n, some []) :: hs) id = some cs → aO hs id = some cs := by
  intro id cs q h;rw [dS,if_neg q] at h;exact h
 have car : Carry w (aH C.X ι (aO hs)) ι w (aH C.X ι' (aO ((n, some []) :: hs))) ι' := by
  refine ⟨fun b o x h1 h2 => ⟨?_,h2⟩,hne,fun _ => Nat.le_refl _⟩
  rintro (h | ⟨id,cs,β,q1,q2⟩)
  ·exact h1 (.inl h)
  ·obtain ⟨r1, r2⟩ := hback _ _ _ q2
   exact h1 (.inr ⟨id,cs,β,hH _ _ r1 q1,r2⟩)
 refine ⟨h0,ι',⟨g.df,g.sz,fun t av ht => ?_⟩,⟨fun id cs h => ?_,fun id id' cs cs' b β β' q1 q2 q3 q4 => ?_,gh.fr,fun id p h => hne _ _ (gh.ex _ _ h),fun id h => ?_⟩⟩
 ·rw [show lk (⟨(d, .own n 0 0 e) :: ts, (n, some []) :: hs, n + 1, z0⟩ : AS).ts t = lk ((d, .own n 0 0 e) :: ts) t from rfl, kI] at ht
  split at ht
  ·rename_i et
   subst et
   cases ht
   obtain ⟨y,hy,hr⟩ := g.tm t _ hd
   refine ⟨y,hy,?_⟩
   simp only [Rd] at hr ⊢
   exact .inl ⟨⟨none,by simp only [ι',upd_same]⟩,trivial,none,hr⟩
  ·obtain ⟨y, hy, hr⟩ := g.tm t av ht
   exact ⟨y,hy,Rd.carry car _ _ hr⟩
 ·by_cases q : id = n
  ·subst q
   simp only [dS,if_true,Option.some.injEq] at h
   exact .inl ⟨by simp only [ι',upd_same],h.symm⟩
  ·rcases gh.obj id cs (hH _ _ q h) with ⟨r1, r2⟩ | ⟨b, β, arr, e', r1, r2, r3, r4, r5, r6⟩
   ·exact .inl ⟨hne _ _ r1,r2⟩
   ·exact .inr ⟨b,β,arr,e',hne _ _ r1,r2,r3,RdC.carryB car _ _ _ (fun o x hx => hx) r4,r5,r6⟩
 ·obtain ⟨r1, r2⟩ := hback _ _ _ q3
  obtain ⟨r3,r4⟩ := hback _ _ _ q4
  exact gh.sep _ _ _ _ _ _ _ (hH _ _ r1 q1) (hH _ _ r3 q2) r2 r4
 ·have h1 : n + 1 ≤ id := h.1
  have h2 : id < cW ∨ z0.fb ≤ id := h.2
  have q : id ≠ n := by omega
  simp only [ι',bB _ _ q]
  exact gh.fresh id ⟨by show n ≤ id;omega,h2⟩
section
variable {P : Program} {N : Nat} {Q : Exit → AS → Prop} {all : Array Oper} {rest : List Oper} {ts : List (Nat × AV)} {hs : List (Nat × Option (List AV))} {n : Nat} {z0 : Lo} {md : Md}
variable {d : Nat} {ty : TypeId} {pos : String} {af : Array Edge}
theorem fK {l:List Oper}{s s':AS}(h:RW P N all Q .txt l s') (k:Le s s'):RW P N all Q .txt l s := fun C a w hN g => h C a w hN (k C a w g)
theorem Le.trans {s s' s'':AS}(h:Le s s') (k:Le s' s''):Le s s'' := fun C a w g => k C a w (h C a w g)
theorem Le.frzTop {ts:List (Nat × AV)}{hs:List (Nat × Option (List AV))}{n:Nat}{z0:Lo}{d i m e:Nat}{cs:List AV} :
  Le ⟨(d,.own i 0 m e) :: ts,(i,some cs) :: hs,n,z0⟩ ⟨(d,.imm m cs) :: ts,(i,none) :: hs,n,z0⟩ := by
 refine (Le.frzD (d := d) (i := i) (m := m) (e := e) (cs := cs) (by simp [kI]) (by simp [dS])).trans ?_
 refine Le.of (fun t av h => ?_) (fun j c h => ?_) (Nat.le_refl _) rfl
 ·show lk ((d, .imm m cs) :: (d, .own i 0 m e) :: ts) t = _
  have h' : lk ((d,.imm m cs) :: ts) t = some av := h
  simp only [kI] at h' ⊢
  split
  ·rename_i q;rw [if_pos q] at h'; exact h'
  ·rename_i q;rw [if_neg q] at h'; exact h'
 ·show aO ((i, none) :: (i, some cs) :: hs) j = _
  have h' : aO ((i,none) :: hs) j = some c := h
  simp only [dS] at h' ⊢
  split
  ·rename_i q;rw [if_pos q] at h'; exact h'
  ·rename_i q;rw [if_neg q] at h'; exact h'
theorem aM {t el len e:Nat}{parts:Array (Nat × Operand)}{zs:List Value}{l:List (Nat × AV)}{cs:List AV}[ht:SlT P t el] [he:SzT P el e] [hz:ZrT P el zs] (hze:zs.length = e) (hsm:Nat.ble (len * e) 16777216 = true)
  (hl : evs (lk ts) parts.toList = some l) (hfl : fX (fun i => some (i * e,e)) ((List.replicate len (zs.map .v)).flatten) l = some cs) (hM : Nat.blt n cW = true) (hN : Nat.blt d N = true) (kk : RW P N all Q .txt rest ⟨(d,.imm len cs) :: ts,(n,none) :: hs,n + 1,z0⟩) :
  RW P N all Q .txt (⟨some d,.buildSlice t len parts,ty,pos,af,none⟩ :: rest) ⟨ts,hs,n,z0⟩ :=
 kK hze hsm hl hfl hM hN (md' := .txt) (fK kk Le.frzTop)
end
theorem Le.mv {ts:List (Nat × AV)}{hs:List (Nat × Option (List AV))}{n:Nat}{z0:Lo}{d i o m e:Nat}{cs:List AV}(hd:lk ts d = some (.own i o m e)) (hi:aO hs i = some cs) (hn:n < cW) :
  Le ⟨ts,hs,n,z0⟩ ⟨(d,.own n o m e) :: ts,(n,some cs) :: (i,none) :: hs,n + 1,z0⟩ := by
 rintro C a w ⟨h0,ι,g,gh⟩
 have hf : ι n = none := gh.fresh n ⟨Nat.le_refl _,.inl hn⟩
 have hin : ∃ p, ι i = some p := by
  rcases gh.obj i cs hi with ⟨r1,_⟩ | ⟨b,β,_,_,r1,_⟩
  ·exact ⟨_,r1⟩
  ·exact ⟨_,r1⟩
 obtain ⟨pi,hpi⟩ := hin
 have hni : n ≠ i := by rintro rfl;rw [hf] at hpi;cases hpi
 let ι' : Pl := dB ι n (ι i)
 have hnn : ι' n = ι i := by simp only [ι',upd_same]
 have hne' : ∀ id,id ≠ n → ι' id = ι id := fun id h => by simp only [ι',bB _ _ h]
 have hne : ∀ id p, ι id = some p → ι' id = some p := by
  intro id p h
  have : id ≠ n := by rintro rfl;rw [hf] at h;cases h
  rw [hne' _ this,h]
 -- the objects of the new state, under their old ids
 let σ : Nat → Nat := fun id => if id = n then i else id
 have hσ : ∀ id c, aO ((n, some cs) :: (i, none) :: hs) id = some c → aO hs (σ id) = some c ∧ ι' id = ι (σ id) ∧ (id = n ∨ id ≠ i) := by
  intro id c h
  simp only [dS] at h
  by_cases q : id = n
  ·subst q
   rw [if_pos rfl] at h;cases h
   exact ⟨by simp only [σ,if_true]; exact hi,by simp only [σ,if_true]; exact hnn,.inl rfl⟩
  ·rw [if_neg q] at h
   by_cases q2 : id = i
   ·rw [if_pos q2] at h;cases h
   ·rw [if_neg q2] at h
    exact ⟨by simp only [σ,if_neg q]; exact h,by simp only [σ,if_neg q]; exact hne' _ q,.inr q2⟩
 have car : Carry w (aH C.X ι (aO hs)) ι w (aH C.X ι' (aO ((n, some cs) :: (i, none) :: hs))) ι' := by
  refine ⟨fun b o x h1 h2 => ⟨?_,h2⟩,hne,fun _ => Nat.le_refl _⟩
  rintro (h | ⟨id,c,β,q1,q2⟩)
  ·exact h1 (.inl h)
  ·obtain ⟨r1, r2, _⟩ := hσ id c q1
   exact h1 (.inr ⟨σ id,c,β,r1,by rw [← r2]; exact q2⟩)
 refine ⟨h0,ι',⟨g.df,g.sz,fun t av ht => ?_⟩,⟨fun id c h => ?_,fun id id' c c' b β β' q1 q2 q3 q4 => ?_,gh.fr,fun id p h => hne _ _ (gh.ex _ _ h),fun id h => ?_⟩⟩
 ·have ht' : lk ((d, .own n o m e) :: ts) t = some av := ht
  rw [kI] at ht'
  split at ht'
  ·rename_i et
   subst et
   cases ht'
   obtain ⟨y,hy,hr⟩ := g.tm t _ hd
   refine ⟨y,hy,?_⟩
   have hr' := Rd.carry car _ _ hr
   simp only [Rd,hnn] at hr' ⊢
   rw [hne' i (fun h => hni h.symm)] at hr'
   exact hr'
  ·obtain ⟨y, hy, hr⟩ := g.tm t av ht'
   exact ⟨y,hy,Rd.carry car _ _ hr⟩
 ·obtain ⟨r1, r2, _⟩ := hσ id c h
  rcases gh.obj _ c r1 with ⟨s1,s2⟩ | ⟨b,β,arr,e',s1,s2,s3,s4,s5,s6⟩
  ·exact .inl ⟨by rw [r2]; exact s1,s2⟩
  ·exact .inr ⟨b,β,arr,e',by rw [r2]; exact s1,s2,s3,RdC.carryB car _ _ _ (fun o x hx => hx) s4,s5,s6⟩
 ·obtain ⟨r1, r2, r3⟩ := hσ id c q1
  obtain ⟨t1,t2,t3⟩ := hσ id' c' q2
  have := gh.sep _ _ _ _ _ _ _ r1 t1 (by rw [← r2]; exact q3) (by rw [← t2]; exact q4)
  simp only [σ] at this
  split at this <;> split at this
  ·omega
  ·rename_i u1 u2; rcases t3 with t3 | t3
   ·exact absurd t3 u2
   ·exact absurd this.symm t3
  ·rename_i u1 u2; rcases r3 with r3 | r3
   ·exact absurd r3 u1
   ·exact absurd this r3
  ·exact this
 ·have h1 : n + 1 ≤ id := h.1
  have h2 : id < cW ∨ z0.fb ≤ id := h.2
  rw [hne' id (by omega)]
  exact gh.fresh id ⟨by show n ≤ id;omega,h2⟩
theorem Le.slot {ts:List (Nat × AV)}{hs:List (Nat × Option (List AV))}{n:Nat}{z0:Lo}{d:Nat}{v v':AV}(hd:lk ts d = some v) (h:∀ (w:World) (bad:Nat → Prop) (ι:Pl) (y:Value),Rd w bad ι v y → Rd w bad ι v' y) :
  Le ⟨ts,hs,n,z0⟩ ⟨(d,v') :: ts,hs,n,z0⟩ := by
 rintro C a w ⟨h0,ι,g,gh⟩
 refine ⟨h0,ι,⟨g.df,g.sz,fun t av ht => ?_⟩,gh⟩
 have ht' : lk ((d,v') :: ts) t = some av := ht
 rw [kI] at ht'
 split at ht'
 ·rename_i et
  subst et
  cases ht'
  obtain ⟨y,hy,hr⟩ := g.tm t _ hd
  exact ⟨y,hy,h _ _ _ _ hr⟩
 ·exact g.tm t av ht'
theorem Le.nilImm {ts:List (Nat × AV)}{hs:List (Nat × Option (List AV))}{n:Nat}{z0:Lo}{d:Nat}(hd:lk ts d = some (.v (.slice none 0 0))):Le ⟨ts,hs,n,z0⟩ ⟨(d,.imm 0 []) :: ts,hs,n,z0⟩ :=
 Le.slot hd fun w bad ι y h => kN (av := .v (.slice none 0 0)) h
theorem By {α:Type}{f:α → List AV}{hs:List (Nat × Option (List AV))}{i:Nat}(h:aO hs i = some []):aO hs i = some (aA f []) := h
def Jm (pts : List Pnt) (i : Nat) : List Nat := pts[i]!.next.map (·.toNat)
theorem Fe {ts:List Int}{pts:List Pnt}(w:WG ts pts){i k:Nat}(hi:i < pts.length):k ∈ Jm pts i ↔ eT pts i k:=by
 unfold Jm eT
 rw [List.mem_map]
 constructor
 ·rintro ⟨z, hz, rfl⟩
  have := w.nx i hi z hz
  exact ⟨hi,by rw [Int.toNat_of_nonneg this.1]; exact hz⟩
 ·rintro ⟨_,h⟩; exact ⟨_,h,rfl⟩
theorem jZ {ts:List Int}{pts:List Pnt}(w:WG ts pts){i k:Nat}(h:eT pts i k):k < pts.length:=by
 have := w.nx i h.1 _ h.2;omega
theorem kR {a n:Nat}(h:a < 2 ^ n){v:Nat}(hv:a.testBit v = true):v < n:=by
 rcases Nat.lt_or_ge v n with h1|h1
 ·exact h1
 ·rw [Nat.testBit_lt_two_pow (Nat.lt_of_lt_of_le h (Nat.pow_le_pow_right (by decide) h1))] at hv;cases hv
theorem gB {ts:List Int}{x:Pnt}{us:List Int}{v:Nat}:(wS ts x us).testBit v = (decide (v < ts.length) && decide (aV ts x v ∈ us)) := dN _ _ _
def IQ (ts : List Int) (pts : List Pnt) (A : List Nat) : Prop := A.length = pts.length ∧ ∀ i,i < pts.length → ∀ v,A[i]!.testBit v = true ↔ Mb ts pts (i,v)
def Ia (ts : List Int) (pts : List Pnt) (A : List Nat) : Prop := A.length = pts.length ∧ ∀ i,i < pts.length → ∀ v,A[i]!.testBit v = true ↔ v < ts.length ∧ ¬ Na ts pts (i,v)
theorem C3 {n:Nat}{A B:List Nat}(h1:A.length = n) (h2:B.length = n) (h:∀ i,i < n → ∀ v,A[i]!.testBit v = true ↔ B[i]!.testBit v = true):A = B:=by
 apply List.ext_getElem (by omega)
 intro i g1 g2
 have := h i (by omega)
 rw [aW _ _ g1,aW _ _ g2] at this
 apply Nat.eq_of_testBit_eq
 intro v
 rw [Bool.eq_iff_iff]; exact this v
theorem lN {l:List Nat}{k x:Nat}(h:l[k]! = x) (hk:k < l.length):l.set k x = l:=by
 subst h;rw [aW _ _ hk]; exact List.set_getElem_self hk
end Go.AL
namespace Go.AL
def I8 (pts : List Pnt) (B : List Nat) (i : Nat) : Nat := (Jm pts i).foldl (fun a k => a ||| B[k]!) 0
theorem jE (B:List Nat) (v:Nat):∀ (L:List Nat) (a:Nat),(L.foldl (fun a k => a ||| B[k]!) a).testBit v = true ↔ a.testBit v = true ∨ ∃ k ∈ L,B[k]!.testBit v = true
 | [],a => by simp
 | k :: L, a => by
  rw [List.foldl_cons,jE B v L,Nat.testBit_or,Bool.or_eq_true]
  simp only [List.mem_cons,exists_eq_or_imp]
  grind
theorem wH {ts:List Int}{pts:List Pnt}(w:WG ts pts){B:List Nat}{i v:Nat}(hi:i < pts.length):(I8 pts B i).testBit v = true ↔ ∃ k,eT pts i k ∧ B[k]!.testBit v = true:=by
 unfold I8
 rw [jE]
 simp only [Nat.zero_testBit,Bool.false_eq_true,false_or,Fe w hi]
def Gf (ts : List Int) (pts : List Pnt) (A : List Nat) : Prop := A.length = pts.length ∧ ∀ i,i < pts.length → ∀ v,A[i]!.testBit v = true ↔ Nd ts pts (i,v)
def Av (ts : List Int) (pts : List Pnt) (A : List Nat) : Prop := A.length = pts.length ∧ ∀ i,i < pts.length → ∀ v,A[i]!.testBit v = true ↔ Lv ts pts i v
theorem A3 {ts:List Int}{pts:List Pnt}{A B:List Nat}(h1:Av ts pts A) (h2:Av ts pts B):A = B := C3 h1.1 h2.1 fun i hi v => (h1.2 i hi v).trans (h2.2 i hi v).symm
theorem Cd {ts:List Int}{pts:List Pnt}(w:WG ts pts){A:List Nat}(h:Gf ts pts A):Av ts pts ((List.range pts.length).map (I8 pts A)):=by
 refine ⟨by simp,fun i hi v => ?_⟩
 rw [aW _ _ (by simpa using hi),List.getElem_map,List.getElem_range,wH w hi]
 constructor
 ·rintro ⟨k,e,hk⟩; exact ⟨k,e,(h.2 k (jZ w e) v).1 hk⟩
 ·rintro ⟨k,e,hk⟩; exact ⟨k,e,(h.2 k (jZ w e) v).2 hk⟩
end Go.AL
namespace Go.AL
theorem zK {ts:List Int}{pts:List Pnt}(w:WG ts pts){a:Nat × Nat}(h:Nd ts pts a):a.2 < ts.length:=by
 induction h with
 | base h => exact h.2.1
 | step _ r ih => rw [r.1]; exact ih
instance (fn : Go.Fn) (f c : List AV) [h : Pur f] [h2 : Pur c] : PurV (.clos fn f c):=⟨by simp only [AV.pur,h.pf,h2.pf,Bool.and_self]⟩
def cN (n : Nat) : List AV := [.v (.int .i64 (n : Int))]
theorem sO {α:Type}{f:α → List AV}{x:α}{l:List AV}{m:Nat}(h:l = f x):(List.replicate m l).flatten = aA f (List.replicate m x):=by
 subst h;simp [aA,List.flatMap_def]
theorem H3 {m:Nat}:(List.replicate m ([Value.int .i64 0].map AV.v)).flatten = aA cN (List.replicate m 0) := sO rfl
theorem EH {m:Nat}:(List.replicate m ([Value.bool false].map AV.v)).flatten = aA cB (List.replicate m false) := sO rfl
section
variable {P : Program} {N : Nat} {Q : Exit → AS → Prop} {all : Array Oper} {rest : List Oper} {ts : List (Nat × AV)} {hs : List (Nat × Option (List AV))} {n : Nat} {z0 : Lo} {md : Md}
variable {d : Nat} {ty : TypeId} {pos : String} {af : Array Edge}
theorem pW {t el e by' m:Nat}{x y:Operand}{zs:List Value}{cs:List AV}{k k':IntKind}[ht:SlT P t el] [he:SzT P el e] [hb:ByT P el by'] [hz:ZrT P el zs]
  (hx : ev (lk ts) x = some (.v (.int k (m : Int)))) (hy : ev (lk ts) y = some (.v (.int k' (m : Int)))) (hze : zs.length = e) (hsm : by' * m ≤ 281474976710656) (hmx : m ≤ 9223372036854775807)
  (hcs : (List.replicate m (zs.map .v)).flatten = cs) (hM : Nat.blt n cW = true) (hN : Nat.blt d N = true) {md' : Md} [hmd : MdA md (rO x ++ rO y) [.inr n,.inl d] md'] (kk : RW P N all Q md' rest ⟨(d,.own n 0 m e) :: ts,(n,some cs) :: hs,n + 1,z0⟩) :
  RW P N all Q md (⟨some d,.makeSlice t x y,ty,pos,af,none⟩ :: rest) ⟨ts,hs,n,z0⟩ := by
 subst hcs
 exact r8 hx hy hze hsm hmx hM hN (md' := md') (hmd := hmd) kk
end
theorem mF {H:Nat → Option (List AV)}:gP H [] = some [] := rfl
theorem kS {H:Nat → Option (List AV)}{c x:AV}{cs l:List AV}(h1:iF H c = some x) (h2:gP H cs = some l):gP H (c :: cs) = some (x :: l):=by
 simp only [gP,h1,h2]
theorem mM {H:Nat → Option (List AV)}{i m e:Nat}{cs:List AV}(h:H i = some cs) (hp:Pur cs):iF H (.own i 0 m e) = some (.imm m cs):=by
 simp only [iF,h,Option.bind_some,hp.pf,if_true,List.drop_zero]
theorem Ag {H:Nat → Option (List AV)}{x:Value}:iF H (.v x) = some (.v x) := rfl
section
variable {P : Program} {N : Nat} {Q : Exit → AS → Prop} {all : Array Oper} {rest : List Oper} {ts : List (Nat × AV)} {hs : List (Nat × Option (List AV))} {n : Nat} {z0 : Lo} {md : Md}
variable {d : Nat} {ty : TypeId} {pos : String} {af : Array Edge}
theorem oQ {k:FuncId}{args:Array Operand}{tys:Array TypeId}{avs avs2:List AV}{r:AV}{md':Md}[hc:CaT P k] (ha:evL (lk ts) args.toList = some avs) (hl:gP (aO hs) avs = some avs2) (h:PC P k avs2 (fun x => x = r)) (hfr:r.free = true) (hN:Nat.blt d N = true)
  (hmd : MdA md (fH args.toList ++ rL avs) [.inl d] md') (kk : RW P N all Q md' rest ⟨(d,r) :: ts,hs,n,z0⟩) : RW P N all Q md (⟨some d,.call ⟨.value (.func k),args,tys⟩,ty,pos,af,none⟩ :: rest) ⟨ts,hs,n,z0⟩ := by
 exact EG ha hl h hfr hN (hmd := hmd) kk
end
theorem Bg {k:IntKind}[hk:K6 k] (a:Nat) [ha:Sm a]:gI .and k a 1 = some (.int k ((a &&& 1:Nat):Int)) := CF a 1
section
variable {P : Program} {N : Nat} {Q : Exit → AS → Prop} {all : Array Oper} {rest : List Oper} {ts : List (Nat × AV)} {hs : List (Nat × Option (List AV))} {n : Nat} {z0 : Lo} {md : Md}
variable {d : Nat} {ty : TypeId} {pos : String} {af : Array Edge}
theorem Fc {k:IntKind}{t t':TypeId}{x y:Operand}{a:Nat}(hx:ev (lk ts) x = some (.v (.int k (a:Int)))) (hy:ev (lk ts) y = some (.v (.int k 1))) (hk:K6 k) (ha:Sm a)
  (hN : Nat.blt d N = true) {md' : Md} [hmd : MdA md (rO x ++ rO y) [.inl d] md'] (kk : RW P N all Q md' rest ⟨(d,.v (.int k ((a &&& 1 : Nat) : Int))) :: ts,hs,n,z0⟩) : RW P N all Q md (⟨some d,.binOp .and t x y t',ty,pos,af,none⟩ :: rest) ⟨ts,hs,n,z0⟩ :=
 fF hx hy (.inl rfl) (Bg a) (dX hN) (by rw [hmd.pf]; exact kk)
end
theorem uY (A v:Nat):((A >>> v &&& 1:Nat):Int) = 1 ↔ A.testBit v = true:=by
 rw [Nat.testBit,Nat.and_comm]
 have : 1 &&& (A >>> v) = (A >>> v) % 2 := by rw [Nat.and_comm,Nat.and_one_is_mod]
 rw [this]
 have := Nat.mod_two_eq_zero_or_one (A >>> v)
 simp only [bne_iff_ne,ne_eq]
 omega
def dF (A : Nat) : List Int := ((List.range 62).filter (A.testBit ·)).map (fun v : Nat => (v : Int))
theorem A7 {A k:Nat}(h:∀ v,k ≤ v → A.testBit v = false) (hk:k ≤ 64) (hA:Sm A):dF A = ((List.range k).filter (A.testBit ·)).map (fun v:Nat => (v:Int)):=by
 unfold dF
 congr 1
 have e : ∀ (a b : Nat), (∀ v, a ≤ v → v < a + b → A.testBit v = false) → (List.range (a + b)).filter (A.testBit ·) = (List.range a).filter (A.testBit ·) := by
  intro a b hb
  rw [List.range_add,List.filter_append]
  have : List.filter (A.testBit ·) (List.map (fun x => a + x) (List.range b)) = [] := by
   rw [List.filter_eq_nil_iff]
   intro x hx
   rw [List.mem_map] at hx
   obtain ⟨y,hy,rfl⟩ := hx
   rw [List.mem_range] at hy
   rw [hb _ (by omega) (by omega)]; simp
  rw [this,List.append_nil]
 rcases Nat.le_total k 62 with h1|h1
 ·have := e k (62 - k) (fun v h2 _ => h v h2)
  rwa [show k + (62 - k) = 62 by omega] at this
 ·have := e 62 (k - 62) (fun v h2 _ => Nat.testBit_lt_two_pow (Nat.lt_of_lt_of_le hA.pf (Nat.pow_le_pow_right (by decide) h2)))
  rw [show 62 + (k - 62) = k by omega] at this
  exact this.symm
theorem j3 (p:Nat → Bool) (k:Nat):(List.range (k + 1)).filter p = (List.range k).filter p ++ (if p k = true then [k] else []):=by
 rw [List.range_succ,List.filter_append]
 congr 1
 by_cases h : p k = true <;> simp [h]
theorem eC {A:Nat}{z:Int}:z ∈ dF A ↔ ∃ v:Nat,v < 62 ∧ A.testBit v = true ∧ z = v:=by
 unfold dF
 simp only [List.mem_map,List.mem_filter,List.mem_range]
 constructor
 ·rintro ⟨v,⟨h1,h2⟩,rfl⟩; exact ⟨v,h1,h2,rfl⟩
 ·rintro ⟨v,h1,h2,rfl⟩; exact ⟨v,⟨h1,h2⟩,rfl⟩
theorem zB {A k:Nat}(hA:Sm A) (h:0 < ((A >>> k:Nat):Int)):k < 62:=by
 rcases Nat.lt_or_ge k 62 with h1|h1
 ·exact h1
 ·have : A >>> k = 0 := by rw [Nat.shiftRight_eq_div_pow]; exact Nat.div_eq_of_lt (Nat.lt_of_lt_of_le hA.pf (Nat.pow_le_pow_right (by decide) h1))
  rw [this] at h;simp at h
theorem DS {A k:Nat}(h:((A >>> k:Nat):Int) ≤ 0) (v:Nat) (hv:k ≤ v):A.testBit v = false:=by
 have h0 : A >>> k = 0 := Nat.le_zero.1 (Int.ofNat_le.1 h)
 have : A.testBit v = (A >>> k).testBit (v - k) := by rw [Nat.testBit_shiftRight]; congr 1;omega
 rw [this,h0]; simp
theorem BF {A k:Nat}{u:List Int}(h:((A >>> k &&& 1:Nat):Int) = 1) (hu:u = ((List.range k).filter (A.testBit ·)).map (fun v:Nat => (v:Int))):u ++ [(k:Int)] = ((List.range (k + 1)).filter (A.testBit ·)).map (fun v:Nat => (v:Int)):=by
 rw [j3,if_pos ((uY A k).1 h),List.map_append,hu]; rfl
theorem A2 {A k:Nat}{u:List Int}(h:¬ ((A >>> k &&& 1:Nat):Int) = 1) (hu:u = ((List.range k).filter (A.testBit ·)).map (fun v:Nat => (v:Int))):u = ((List.range (k + 1)).filter (A.testBit ·)).map (fun v:Nat => (v:Int)):=by
 rw [j3,if_neg (fun q => h ((uY A k).2 q)),List.append_nil,hu]
def H9 (pts : List Pnt) (V : Nat) : Nat := dT (fun l => m8 pts[l]! && V.testBit (pts[l]!.y.toNat)) pts.length
theorem mP {pts:List Pnt}{V l:Nat}:(H9 pts V).testBit l = (decide (l < pts.length) && (m8 pts[l]! && V.testBit (pts[l]!.y.toNat))) := dN _ _ _
theorem HB {ts:List Int}{pts:List Pnt}(w:WG ts pts){l:Nat}(hl:l < pts.length) (h:m8 pts[l]! = true):0 ≤ pts[l]!.y ∧ pts[l]!.y < ts.length ∧ pts[l]!.y.toNat < ts.length ∧ ((pts[l]!.y.toNat:Nat):Int) = pts[l]!.y:=by
 have := w.y l hl
 unfold m8 at h
 simp only [Bool.or_eq_true,decide_eq_true_eq] at h
 omega
def Iv (ts : List Int) (pts : List Pnt) (A : List Nat) : Prop := A.length = pts.length ∧ ∀ i,i < pts.length → ∀ l,A[i]!.testBit l = true ↔ Iy ts pts (i,l)
theorem B8 {ts:List Int}{pts:List Pnt}{a:Nat × Nat}(h:Iy ts pts a):a.2 < pts.length ∧ m8 pts[a.2]! = true:=by
 induction h with
 | base h => exact ⟨h.1.1,h.2⟩
 | step _ r ih => rw [r.1]; exact ih
end Go.AL
namespace Go.AL
theorem dG (A:Nat):(dF A).length ≤ 62:=by
 unfold dF;rw [List.length_map]; exact Nat.le_trans (List.length_filter_le _ _) (by simp)
def kF (A : List Nat) (i : Nat) : List Nat := (A.drop (i * 6)).take 6
theorem zQ {A:List Nat}{i v n:Nat}(hA:A.length = n * 6) (hi:i < n) (hv:v < 6):(kF A i)[v]! = A[i * 6 + v]!:=by
 have h2 : i * 6 + v < A.length := by omega
 rw [aW _ _ h2,aW _ _ (by unfold kF;simp;omega)]
 unfold kF;simp
theorem tS {A:List Nat}{i n:Nat}(hA:A.length = n * 6) (hi:i < n):(kF A i).length = 6 := by unfold kF;simp;omega
def IZ (ts : List Int) (pts : List Pnt) (A : List Nat) : Prop := A.length = pts.length * 6 ∧ ∀ i v,i < pts.length → v < 6 → ∀ l,A[i * 6 + v]!.testBit l = true ↔ Io ts pts (i,v,l)
theorem CZ {ts:List Int}{pts:List Pnt}(w:WG ts pts){a:Nat × Nat × Nat}(h:Io ts pts a):a.1 < pts.length ∧ a.2.1 < ts.length ∧ a.2.2 < pts.length:=by
 induction h with
 | @base a h =>
  have h1 := (w.set _ h.1.1).1
  have h2 := h.2.2
  exact ⟨jZ w h.1,by omega,h.1.1⟩
 | @step a b _ r ih =>
  refine ⟨jZ w r.2.1,?_,by rw [r.1]; exact ih.2.2⟩
  rcases r.2.2 with ⟨_,h,_⟩ | ⟨h,_⟩
  ·rw [h]; exact ih.2.1
  ·have h1 := (w.set _ r.2.1.1).1
   omega
end Go.AL
namespace Go.AL
open Go.RowKit
section
variable {P : Program} {N : Nat} {Q : Exit → AS → Prop} {all : Array Oper} {rest : List Oper} {ts : List (Nat × AV)} {hs : List (Nat × Option (List AV))} {n : Nat} {z0 : Lo} {md : Md}
variable {d : Nat} {ty : TypeId} {pos : String} {af : Array Edge}
theorem tH {e:Nat}(hM:Nat.blt n cW = true) (hN:Nat.blt d N = true) (kk:RW P N all Q .txt rest ⟨(d,.own n 0 0 e) :: ts,(n,some []) :: hs,n + 1,z0⟩) :
  RW P N all Q .txt (⟨some d,.assign (.const (.slice none 0 0)),ty,pos,af,none⟩ :: rest) ⟨ts,hs,n,z0⟩ := by
 refine qH (av := .v (.slice none 0 0)) rfl hN (md' := .txt) (fK kk ((Le.nilOwn (d := d) e (by simp [kI]) (dX hM)).trans ?_))
 refine Le.of (fun t av h => ?_) (fun i c h => h) (Nat.le_refl _) rfl
 show lk ((d,.own n 0 0 e) :: (d,.v (.slice none 0 0)) :: ts) t = _
 have h' : lk ((d,.own n 0 0 e) :: ts) t = some av := h
 simp only [kI] at h' ⊢
 split
 ·rename_i q;rw [if_pos q] at h'; exact h'
 ·rename_i q;rw [if_neg q] at h'; exact h'
end
def AI (ts : List Int) (x : Pnt) (m : Bool) : List Acc :=
 (if x.op = 4 ∨ x.op = 6 then [⟨x.y,false⟩] else if x.op = 5 then [⟨x.y,true⟩] else if x.op = 7 ∨ x.op = 8 then [⟨x.x,true⟩] else if x.op = 3 ∧ tI ts[x.y.toNat]! = true then [⟨x.y,true⟩] else []) ++
 (if 0 ≤ aU x ∧ ts[(aU x).toNat]! = 2 ∧ m = true then [⟨aU x,true⟩] else [])
def I3 (f : List Nat) (L : List Int) (a : Nat) : Nat := L.foldl (fun a v => a ||| f[v.toNat]!) a
def Ek (ts : List Int) (x : Pnt) (live : Nat) (f : List Nat) : Nat := I3 f (dF (I7 live (wS ts x [2] ||| Hf x))) 0
theorem jG (f:List Nat) (l:Nat):∀ (L:List Int) (a:Nat),(I3 f L a).testBit l = true ↔ a.testBit l = true ∨ ∃ v ∈ L,f[v.toNat]!.testBit l = true
 | [],a => by simp [I3]
 | v :: L, a => by
  show (I3 f L (a ||| f[v.toNat]!)).testBit l = true ↔ _
  rw [jG f l L,Nat.testBit_or,Bool.or_eq_true]
  simp only [List.mem_cons,exists_eq_or_imp]
  grind
def ID (pts : List Pnt) (wr : Bool) (L : List Int) (a : Nat) : Nat := L.foldl (fun a l => if wr = true ∨ pts[l.toNat]!.op = 5 then a ||| 2 ^ l.toNat else a) a
def IH (pts : List Pnt) (loans : Nat) (acs : List Acc) (a : Nat) : Nat := acs.foldl (fun a c => ID pts c.write (dF (loans &&& H9 pts (2 ^ c.var.toNat))) a) a
theorem mR (pts:List Pnt) (wr:Bool) (l:Nat):∀ (L:List Int) (a:Nat),(ID pts wr L a).testBit l = true ↔ a.testBit l = true ∨ ((∃ z ∈ L,z.toNat = l) ∧ (wr = true ∨ pts[l]!.op = 5))
 | [],a => by simp [ID]
 | z :: L, a => by
  show (ID pts wr L (if wr = true ∨ pts[z.toNat]!.op = 5 then a ||| 2 ^ z.toNat else a)).testBit l = true ↔ _
  rw [mR pts wr l L]
  have h2 : ∀ b : Nat, (a ||| 2 ^ b).testBit l = true ↔ a.testBit l = true ∨ b = l := by
   intro b
   rw [Nat.testBit_or,Bool.or_eq_true,Nat.testBit_two_pow,decide_eq_true_eq]
  split
  ·rename_i h
   rw [h2]
   simp only [List.mem_cons,exists_eq_or_imp]
   constructor
   ·rintro ((h1 | rfl) | ⟨h1, h3⟩)
    ·exact .inl h1
    ·exact .inr ⟨.inl rfl,h⟩
    ·exact .inr ⟨.inr h1,h3⟩
   ·rintro (h1 | ⟨rfl | h1, h3⟩)
    ·exact .inl (.inl h1)
    ·exact .inl (.inr rfl)
    ·exact .inr ⟨h1,h3⟩
  ·rename_i h
   simp only [List.mem_cons,exists_eq_or_imp]
   constructor
   ·rintro (h1 | ⟨h1, h3⟩)
    ·exact .inl h1
    ·exact .inr ⟨.inr h1,h3⟩
   ·rintro (h1 | ⟨rfl | h1, h3⟩)
    ·exact .inl h1
    ·exact absurd h3 h
    ·exact .inr ⟨h1,h3⟩
theorem jI (pts:List Pnt) (loans l:Nat) (hl:Sm loans):∀ (acs:List Acc) (a:Nat),(IH pts loans acs a).testBit l = true ↔ a.testBit l = true ∨ ∃ c ∈ acs,loans.testBit l = true ∧ (H9 pts (2 ^ c.var.toNat)).testBit l = true ∧ (c.write = true ∨ pts[l]!.op = 5)
 | [],a => by simp [IH]
 | c :: acs, a => by
  show (IH pts loans acs (ID pts c.write (dF (loans &&& H9 pts (2 ^ c.var.toNat))) a)).testBit l = true ↔ _
  rw [jI pts loans l hl acs,mR]
  have h2 : (∃ z ∈ dF (loans &&& H9 pts (2 ^ c.var.toNat)), z.toNat = l) ↔ loans.testBit l = true ∧ (H9 pts (2 ^ c.var.toNat)).testBit l = true := by
   constructor
   ·rintro ⟨z, hz, rfl⟩
    obtain ⟨v,h1,h3,rfl⟩ := eC.1 hz
    rw [Nat.testBit_and,Bool.and_eq_true] at h3;exact h3
   ·intro h
    have : l < 62 := kR hl.pf h.1
    exact ⟨(l : Int),eC.2 ⟨l,this,by rw [Nat.testBit_and,h.1,h.2]; rfl,rfl⟩,rfl⟩
  rw [h2]
  simp only [List.mem_cons,exists_eq_or_imp]
  grind
theorem En {ts:List Int}{pts:List Pnt}(m:Bool) (w:WG ts pts){i:Nat}(hi:i < pts.length):∀ c ∈ AI ts pts[i]! m,0 ≤ c.var ∧ c.var < ts.length:=by
 have hst := w.set i hi
 have hx := w.x i hi
 have hy := w.y i hi
 intro c hc
 unfold AI at hc
 rw [List.mem_append] at hc
 rcases hc with hc|hc
 ·repeat' split at hc
  all_goals first
   | (rw [List.mem_singleton] at hc;subst hc;dsimp only;omega)
   | cases hc
 ·split at hc
  ·rw [List.mem_singleton] at hc;subst hc;dsimp only;omega
  ·cases hc
def Jl (i : Nat) (L : List Int) : List Iss := L.map fun v => ⟨i,1,v⟩
def Jk (pts : List Pnt) (i : Nat) (L : List Int) : List Iss := L.map fun l => ⟨i,if pts[l.toNat]!.op = 5 then 3 else 2,l⟩
def H8 (ts : List Int) (pts : List Pnt) (Am Al Af Ap : List Nat) (i : Nat) : Nat :=
 IH pts (Ek ts pts[i]! Al[i]! (kF Af i) &&& Ap[i]!) (AI ts pts[i]! (Am[i]!.testBit (aU pts[i]!).toNat)) 0
def IA (ts : List Int) (pts : List Pnt) (Aa Am Al Af Ap : List Nat) (i : Nat) : List Iss :=
 Jl i (dF (I7 (wS ts pts[i]! [1,2,3]) Aa[i]!)) ++ Jk pts i (dF (H8 ts pts Am Al Af Ap i))
def Ji (ts : List Int) (pts : List Pnt) (Aa Am Al Af Ap : List Nat) (k : Nat) : List Iss := (List.range k).flatMap (IA ts pts Aa Am Al Af Ap)
theorem H6 {ts:List Int}{pts:List Pnt}(w:WG ts pts){Am Al Af Ap:List Nat}{i:Nat}(hp:Ap[i]! < 2 ^ pts.length):H8 ts pts Am Al Af Ap i < 2 ^ pts.length:=by
 have hpl := w.pl
 have hl : Ek ts pts[i]! Al[i]! (kF Af i) &&& Ap[i]! < 2 ^ pts.length := Nat.and_lt_two_pow _ hp
 apply Nat.lt_pow_two_of_testBit
 intro l hl2
 unfold H8
 cases hq : (IH pts (Ek ts pts[i]! Al[i]! (kF Af i) &&& Ap[i]!) (AI ts pts[i]! (Am[i]!.testBit (aU pts[i]!).toNat)) 0).testBit l with
 | false => rfl
 | true =>
  rw [jI _ _ _ ⟨Nat.lt_of_lt_of_le hl (Nat.pow_le_pow_right (by decide) (by omega))⟩] at hq
  rcases hq with hq | ⟨c,_,h2,_⟩
  ·simp at hq
  ·have := kR hl h2;omega
theorem Gq {ts:List Int}{pts:List Pnt}(w:WG ts pts){a:Nat × Nat}(h:Mb ts pts a):a.2 < ts.length:=by
 induction h with
 | base h => obtain ⟨i,e,h2⟩ := h;have := (w.set i e.1).1;omega
 | step _ r ih => rw [r.1]; exact ih
structure Flows (ts : List Int) (pts : List Pnt) where
 Aa : List Nat
 Am : List Nat
 An : List Nat
 Al : List Nat
 Af : List Nat
 Ap : List Nat
 ga : Ia ts pts Aa
 gm : IQ ts pts Am
 gn : Gf ts pts An
 gl : Av ts pts Al
 gf : IZ ts pts Af
 gp : Iv ts pts Ap
theorem jU (n m:Nat) (T:Nat → Nat → Prop) (h:∀ i v,i < n → T i v → v < m):∃ A:List Nat,A.length = n ∧ ∀ i,i < n → ∀ v,A[i]!.testBit v = true ↔ T i v:=by
 have key : ∀ i : Nat, ∃ f : Nat → Bool, ∀ v, f v = true ↔ T i v := fun i => by
  have : ∀ v, ∃ b : Bool, b = true ↔ T i v := fun v => by
   by_cases hT : T i v
   ·exact ⟨true,by simp [hT]⟩
   ·exact ⟨false,by simp [hT]⟩
  exact ⟨fun v => Classical.choose (this v),fun v => Classical.choose_spec (this v)⟩
 refine ⟨(List.range n).map (fun i => dT (Classical.choose (key i)) m),by simp,fun i hi v => ?_⟩
 rw [aW _ _ (by simpa using hi),List.getElem_map,List.getElem_range,dN,Bool.and_eq_true,decide_eq_true_eq,Classical.choose_spec (key i) v]
 exact ⟨fun h2 => h2.2,fun h2 => ⟨h i v hi h2,h2⟩⟩
theorem Flows.ex {ts:List Int}{pts:List Pnt}(w:WG ts pts):Nonempty (Flows ts pts):=by
 obtain ⟨Aa,a1,a2⟩ := jU pts.length ts.length (fun i v => v < ts.length ∧ ¬ Na ts pts (i,v)) (fun i v _ h => h.1)
 obtain ⟨Am,b1,b2⟩ := jU pts.length ts.length (fun i v => Mb ts pts (i,v)) (fun i v _ h => Gq w h)
 obtain ⟨An,c1,c2⟩ := jU pts.length ts.length (fun i v => Nd ts pts (i,v)) (fun i v _ h => zK w h)
 obtain ⟨Al,d1,d2⟩ := jU pts.length ts.length (fun i v => Lv ts pts i v) (fun i v _ h => by obtain ⟨k,_,h⟩ := h;exact zK w h)
 obtain ⟨Ap,e1,e2⟩ := jU pts.length pts.length (fun i l => Iy ts pts (i,l)) (fun i v _ h => (B8 h).1)
 obtain ⟨Af,f1,f2⟩ := jU (pts.length * 6) pts.length (fun q l => Io ts pts (q / 6,q % 6,l)) (fun q v _ h => (CZ w h).2.2)
 refine ⟨⟨Aa,Am,An,Al,Af,Ap,⟨a1,a2⟩,⟨b1,b2⟩,⟨c1,c2⟩,⟨d1,d2⟩,⟨f1,fun i v hi hv l => ?_⟩,⟨e1,e2⟩⟩⟩
 rw [f2 (i * 6 + v) (by omega) l,show (i * 6 + v) / 6 = i by omega,show (i * 6 + v) % 6 = v by omega]
def Flows.iss {ts : List Int} {pts : List Pnt} (f : Flows ts pts) : List Iss := Ji ts pts f.Aa f.Am f.Al f.Af f.Ap pts.length
theorem Gx {α:Type}{f:α → List AV}{e m:Nat}[h:FlT f e] {ys:List α}{H:Nat → Option (List AV)}(hm:m = ys.length):sCells H e (sI (.imm m (aA f ys))) = some (m,aA f ys):=by
 subst hm
 have hl : (aA f ys).length = ys.length * e := aI f ys
 show (if ys.length * e ≤ (aA f ys).length then some (ys.length,(aA f ys).take (ys.length * e)) else none) = _
 rw [if_pos (by omega),List.take_of_length_le (by omega)]
theorem uB {α:Type}{f:α → List AV}{ys:List α}{e m:Nat}{L:List AV}(h:m = 0):(((List.replicate 0 L).flatten).drop 0).take (m * e) ++ aA f ys = aA f ys := by subst h;simp
theorem Le.cells {ts:List (Nat × AV)}{hs:List (Nat × Option (List AV))}{n:Nat}{z0:Lo}{i:Nat}{cs cs':List AV}(hi:aO hs i = some cs) (hl:cs'.length = cs.length)
  (h : ∀ (w : World) (bad : Nat → Prop) (ι : Pl) (b β : Nat),RdC w bad ι cs b β → RdC w bad ι cs' b β) :
  Le ⟨ts,hs,n,z0⟩ ⟨ts,(i,some cs') :: hs,n,z0⟩ := by
 rintro C a w ⟨h0,ι,g,gh⟩
 have hk : ∀ id c, aO ((i, some cs') :: hs) id = some c → (id = i ∧ c = cs') ∨ (id ≠ i ∧ aO hs id = some c) := by
  intro id c hc
  rw [dS] at hc
  split at hc
  ·rename_i e;cases hc;exact .inl ⟨e,rfl⟩
  ·rename_i e;exact .inr ⟨fun h => e h,hc⟩
 have hk2 : ∀ id c, aO hs id = some c → ∃ c', aO ((i, some cs') :: hs) id = some c' := by
  intro id c hc
  rw [dS]
  split
  ·exact ⟨_,rfl⟩
  ·exact ⟨_,hc⟩
 have hb : aH C.X ι (aO ((i, some cs') :: hs)) = aH C.X ι (aO hs) := by
  funext b
  refine propext ⟨?_,?_⟩
  ·rintro (h | ⟨id, c, β, h1, h2⟩)
   ·exact .inl h
   ·rcases hk id c h1 with ⟨rfl, _⟩ | ⟨_, h3⟩
    ·exact .inr ⟨_,_,_,hi,h2⟩
    ·exact .inr ⟨_,_,_,h3,h2⟩
  ·rintro (h | ⟨id, c, β, h1, h2⟩)
   ·exact .inl h
   ·obtain ⟨c', h3⟩ := hk2 id c h1
    exact .inr ⟨_,_,_,h3,h2⟩
 refine ⟨h0,ι,⟨g.df,g.sz,fun t av ht => ?_⟩,?_,?_,gh.fr,gh.ex,gh.fresh⟩
 ·show ∃ y, a.tmps[t]? = some y ∧ Rd w (aH C.X ι (aO ((i, some cs') :: hs))) ι av y
  rw [hb]; exact g.tm t av ht
 ·intro id c hc
  show _ ∨ ∃ b β arr e,ι id = some (some (b,β)) ∧ w.heap[b]? = some (.cells arr e (0,0)) ∧ β + c.length ≤ arr.size ∧ RdC w (aH C.X ι (aO ((i,some cs') :: hs))) ι c b β ∧ ¬ C.X b ∧ (C.W0 b ∨ C.w0.heap.size ≤ b)
  rw [hb]
  rcases hk id c hc with ⟨rfl,rfl⟩ | ⟨_,h3⟩
  ·rcases gh.obj _ _ hi with ⟨q1, q2⟩ | ⟨b, β, arr, e, q1, q2, q3, q4, q5⟩
   ·subst q2
    exact .inl ⟨q1,List.eq_nil_of_length_eq_zero hl⟩
   ·exact .inr ⟨b,β,arr,e,q1,q2,by rw [hl]; exact q3,h _ _ _ _ _ q4,q5⟩
  ·exact gh.obj _ _ h3
 ·intro id id' c c' b β β' h1 h2 h3 h4
  obtain ⟨d1, e1⟩ : ∃ d, aO hs id = some d := by
   rcases hk id c h1 with ⟨rfl,_⟩ | ⟨_,h⟩
   ·exact ⟨_,hi⟩
   ·exact ⟨_,h⟩
  obtain ⟨d2, e2⟩ : ∃ d, aO hs id' = some d := by
   rcases hk id' c' h2 with ⟨rfl,_⟩ | ⟨_,h⟩
   ·exact ⟨_,hi⟩
   ·exact ⟨_,h⟩
  exact gh.sep id id' d1 d2 b β β' e1 e2 h3 h4
theorem BY {α:Type}[Inhabited α] (xs:List α) (i:Nat):xs[i]! = if h:i < xs.length then xs[i] else default:=by
 split
 ·rw [aW _ _ ‹_›]
 ·rw [getElem!_neg xs i ‹_›]
theorem nB {α:Type}[Inhabited α] {a b:List α}(hl:a.length = b.length) (h:∀ i,i < a.length → a[i]! = b[i]!):a = b:=by
 refine List.ext_getElem hl fun i h1 h2 => ?_
 have := h i h1
 rwa [aW _ _ h1,aW _ _ h2] at this
theorem bR {α:Type}[Inhabited α] (xs:List α) (i j:Nat) (x:α):(xs.set i x)[j]! = if i = j ∧ j < xs.length then x else xs[j]!:=by
 by_cases hj : j < xs.length
 ·rw [aW _ _ (by simpa using hj),List.getElem_set,aW _ _ hj]; grind
 ·rw [getElem!_neg (xs.set i x) j (by simpa using hj),getElem!_neg xs j hj,if_neg (by omega)]
theorem v8 {α:Type}[Inhabited α] (f:Nat → α) (n i:Nat) (h:i < n):(((List.range n).map f:List α))[i]! = f i:=by
 rw [aW _ i (by simpa using h)]; simp
end Go.AL
namespace Go.AL
section
variable {P : Program} {N : Nat} {Q : Exit → AS → Prop} {all : Array Oper} {rest : List Oper} {ts : List (Nat × AV)} {hs : List (Nat × Option (List AV))} {n : Nat} {z0 : Lo} {md : Md}
variable {d : Nat} {ty : TypeId} {pos : String} {af : Array Edge}
def Stop (p : Prop) : Prop := p
theorem a6 {op:Op}{g:Option (Nat × Bool)}(h:Stop (RW P N all Q md (⟨some d,op,ty,pos,af,g⟩ :: rest) ⟨ts,hs,n,z0⟩)):RW P N all Q md (⟨some d,op,ty,pos,af,g⟩ :: rest) ⟨ts,hs,n,z0⟩ := h
theorem b7 {l:List Oper}{s:AS}(h:RW P N all Q md l s):Stop (RW P N all Q md l s) := h
end
end Go.AL
namespace Go.AL
mutual
inductive Ld (D : List Nat) (H : Nat → Option (List AV)) : AV → AV → Prop
 | pur {v : AV} : v.pur = true → Ld D H v v
 | own {id m e : Nat} {cs cs' : List AV} : id ∈ D → H id = some cs → LdL D H cs cs' → Ld D H (.own id 0 m e) (.imm m cs')
 | optr {id : Nat} {cs cs' : List AV} : id ∈ D → H id = some cs → LdL D H cs cs' → Ld D H (.optr id 0) (.iptr cs')
 | imm {m : Nat} {cs cs' : List AV} : LdL D H cs cs' → Ld D H (.imm m cs) (.imm m cs')
 | agg {cs cs' : List AV} : LdL D H cs cs' → Ld D H (.agg cs) (.agg cs')
inductive LdL (D : List Nat) (H : Nat → Option (List AV)) : List AV → List AV → Prop
 | pur {v : List AV} : bF v = true → LdL D H v v
 | nil : LdL D H [] []
 | cons {c c' : AV} {cs cs' : List AV} : Ld D H c c' → LdL D H cs cs' → LdL D H (c :: cs) (c' :: cs')
end
mutual
theorem Ld.agr {D:List Nat}{H H':Nat → Option (List AV)}(h:∀ id ∈ D,H id = H' id):∀ {v v':AV},Ld D H v v' → Ld D H' v v'
 | _,_,.pur hp => .pur hp
 | _,_,.own h1 h2 h3 => .own h1 (by rw [← h _ h1]; exact h2) (LdL.agr h h3)
 | _,_,.optr h1 h2 h3 => .optr h1 (by rw [← h _ h1]; exact h2) (LdL.agr h h3)
 | _,_,.imm h3 => .imm (LdL.agr h h3)
 | _,_,.agg h3 => .agg (LdL.agr h h3)
theorem LdL.agr {D:List Nat}{H H':Nat → Option (List AV)}(h:∀ id ∈ D,H id = H' id):∀ {v v':List AV},LdL D H v v' → LdL D H' v v'
 | _,_,.pur hp => .pur hp
 | _,_,.nil => .nil
 | _,_,.cons h1 h2 => .cons (Ld.agr h h1) (LdL.agr h h2)
end
theorem LdL.len {D:List Nat}{H:Nat → Option (List AV)}:∀ {v v':List AV},LdL D H v v' → v.length = v'.length
 | _,_,.pur hp => rfl
 | _,_,.nil => rfl
 | _,_,.cons h1 h2 => by simp [LdL.len h2]
mutual
theorem Ld.ok {C:Ctx}{ι:Pl}{F:Nat → Prop}{D:List Nat}{H:Nat → Option (List AV)}{w:World}(g:HG C ι F H w):∀ {v v':AV},Ld D H v v' → ∀ {y:Value},Rd w (aH C.X ι H) ι v y → Rd w C.X (fun _ => none) v' y
 | _,_,.pur hp,y,k => Rd.pur _ y hp (Rd.carry (⟨fun b o x h1 h2 => ⟨fun q => h1 (.inl q),h2⟩,fun _ _ h => h,fun _ => Nat.le_refl _⟩ : Carry w (aH C.X ι H) ι w C.X ι) _ _ k)
 | _, _, .own (id := id) (m := m) h1 h2 h3, y, k => by
  have hlen := LdL.len h3
  simp only [Rd] at k ⊢
  rcases k with ⟨_,rfl,a,rfl⟩ | ⟨b,β,c,q1,rfl,q2,q3⟩
  ·exact ⟨a,0,rfl,.inl rfl⟩
  ·rcases g.obj id _ h2 with ⟨p1, _⟩ | ⟨b', β', arr, e', p1, p2, p3, p4, p5, p6⟩
   ·rw [p1] at q1;cases q1
   ·rw [p1] at q1; cases q1
    exact ⟨_,c,rfl,.inr ⟨b,β + 0,q2,rfl,.inr ⟨p5,LdL.okC g h3 p4⟩⟩⟩
 | _, _, .optr (id := id) h1 h2 h3, y, k => by
  simp only [Rd] at k ⊢
  obtain ⟨b,β,q1,rfl⟩ := k
  rcases g.obj id _ h2 with ⟨p1,_⟩ | ⟨b',β',arr,e',p1,p2,p3,p4,p5,p6⟩
  ·rw [p1] at q1;cases q1
  ·rw [p1] at q1; cases q1
   exact ⟨b,β + 0,rfl,.inr ⟨p5,LdL.okC g h3 p4⟩⟩
 | _, _, .imm (cs := cs) (cs' := cs') h3, y, k => by
  have hlen := LdL.len h3
  simp only [Rd] at k ⊢
  obtain ⟨a,c,rfl,k⟩ := k
  refine ⟨a,c,rfl,?_⟩
  rcases k with k | ⟨b,o,hn,rfl,k⟩
  ·exact .inl k
  ·refine .inr ⟨b, o, hn, rfl, ?_⟩
   rcases k with k | ⟨hb,k⟩
   ·subst k;exact .inl (List.eq_nil_of_length_eq_zero (by rw [← hlen]; rfl))
   ·exact .inr ⟨fun q => hb (.inl q),LdL.okC g h3 k⟩
 | _, _, .agg h3, y, k => by
  simp only [Rd] at k ⊢
  obtain ⟨l,h1,h2⟩ := k
  exact ⟨l,h1,LdL.okL g h3 h2⟩
theorem LdL.okC {C:Ctx}{ι:Pl}{F:Nat → Prop}{D:List Nat}{H:Nat → Option (List AV)}{w:World}(g:HG C ι F H w):∀ {v v':List AV},LdL D H v v' → ∀ {b o:Nat},RdC w (aH C.X ι H) ι v b o → RdC w C.X (fun _ => none) v' b o
 | _,_,.pur hp,b,o,k => RdC.pur _ b o hp (RdC.carryB (⟨fun b o x h1 h2 => ⟨fun q => h1 (.inl q),h2⟩,fun _ _ h => h,fun _ => Nat.le_refl _⟩ : Carry w (aH C.X ι H) ι w C.X ι) _ _ _ (fun o x hx => hx) k)
 | _,_,.nil,b,o,k => by simp only [RdC]
 | _, _, .cons h1 h2, b, o, k => by
  simp only [RdC] at k ⊢
  obtain ⟨⟨x,q1,q2,q3⟩,q4⟩ := k
  exact ⟨⟨x,q1,q2,Ld.ok g h1 q3⟩,LdL.okC g h2 q4⟩
theorem LdL.okL {C:Ctx}{ι:Pl}{F:Nat → Prop}{D:List Nat}{H:Nat → Option (List AV)}{w:World}(g:HG C ι F H w):∀ {v v':List AV},LdL D H v v' → ∀ {y:List Value},RdL w (aH C.X ι H) ι v y → RdL w C.X (fun _ => none) v' y
 | _,_,.pur hp,y,k => RdL.pur _ y hp (RdL.carry (⟨fun b o x h1 h2 => ⟨fun q => h1 (.inl q),h2⟩,fun _ _ h => h,fun _ => Nat.le_refl _⟩ : Carry w (aH C.X ι H) ι w C.X ι) _ _ k)
 | _,_,.nil,y,k => by simpa only [RdL] using k
 | _, _, .cons h1 h2, y, k => by
  simp only [RdL] at k ⊢
  obtain ⟨x,l',q0,q1,q2,q3⟩ := k
  exact ⟨x,l',q0,q1,Ld.ok g h1 q2,LdL.okL g h2 q3⟩
end
theorem LdL.okV {C:Ctx}{ι:Pl}{F:Nat → Prop}{D:List Nat}{H:Nat → Option (List AV)}{w:World}(g:HG C ι F H w):∀ {v v':List AV},LdL D H v v' → ∀ {y:List Value},RdV w (aH C.X ι H) ι v y → RdV w C.X (fun _ => none) v' y
 | _,_,.pur hp,y,k => RdV.pur _ y hp (RdV.carry (⟨fun b o x h1 h2 => ⟨fun q => h1 (.inl q),h2⟩,fun _ _ h => h,fun _ => Nat.le_refl _⟩ : Carry w (aH C.X ι H) ι w C.X ι) _ _ k)
 | _,_,.nil,y,k => by simpa only [RdV] using k
 | _, _, .cons h1 h2, y, k => by
  simp only [RdV] at k ⊢
  obtain ⟨x,l',q0,q2,q3⟩ := k
  exact ⟨x,l',q0,Ld.ok g h1 q2,LdL.okV g h2 q3⟩
section
variable {P : Program} {N : Nat} {Q : Exit → AS → Prop} {all : Array Oper} {rest : List Oper} {ts : List (Nat × AV)} {hs : List (Nat × Option (List AV))} {n : Nat} {z0 : Lo} {md : Md}
variable {d : Nat} {ty : TypeId} {pos : String} {af : Array Edge}
theorem lC {k:FuncId}{args:Array Operand}{tys:Array TypeId}{avs avs2:List AV}{r:AV}(D:List Nat) [hc:CaT P k] (ha:evL (lk ts) args.toList = some avs) (hl:LdL D (aO hs) avs avs2) (h:PC P k avs2 (fun x => x = r)) (hfr:r.free = true) (hN:Nat.blt d N = true)
  {md' : Md} [hmd : MdA md (fH args.toList ++ D.map .inr) [.inl d] md'] (kk : RW P N all Q md' rest ⟨(d,r) :: ts,hs,n,z0⟩) : RW P N all Q md (⟨some d,.call ⟨.value (.func k),args,tys⟩,ty,pos,af,none⟩ :: rest) ⟨ts,hs,n,z0⟩ := by
 refine gO (rs := fH args.toList ++ D.map .inr) (ws := []) (n' := n) (out := r) rfl (Nat.le_refl _) (.inl rfl) (fun C ι F T H a w K Q' hCN ag hF g gh hK => ?_) (fun x hx => by cases hx;exact dX hN) (by rw [← hmd.pf] at kk;exact kk)
 simp only [Oper.wp,fU hc.pf,Oper.upon]
 have hl' : LdL D H avs avs2 := hl.agr fun id hid => (ag.r.h id (List.mem_map_of_mem hid)).symm
 have hv := hl'.okV gh (gF g (ag.l.evL.trans ha))
 let C' : Ctx := { N := 0,w0 := w,W0 := fun _ => False,X := C.X,ι0 := fun _ => none,xlt := fun b hb => Nat.lt_of_lt_of_le (C.xlt b hb) gh.fr.size }
 have hbad : ∀ b,aH C'.X (fun _ => none) (aO []) b ↔ C.X b := fun b => ⟨fun h => (by rcases h with h | ⟨id,cs,β,h1,h2⟩ <;> first|exact h|cases h2),fun h => Or.inl h⟩
 have g' : HG C' (fun _ => none) (fun j => 0 ≤ j) (aO []) w :=
  ⟨fun id cs h => by simp [aO] at h,fun id id' cs cs' b β β' h => by simp [aO] at h,Fr.refl _ _,fun _ _ h => h,fun _ _ => rfl⟩
 have hcar : Carry w C.X (fun _ => none) w (aH C'.X (fun _ => none) (aO [])) (fun _ => none) := ⟨fun b o x h1 h2 => ⟨fun h => h1 ((hbad b).1 h),h2⟩,fun _ _ h => h,fun _ => Nat.le_refl _⟩
 refine (h C' _ w _ rfl rfl g' (RdV.carry hcar _ _ hv)).mono ?_
 rintro e w' ⟨v,r',H',ι',rfl,⟨rfl,_⟩,h4,h5⟩
 obtain ⟨g2,c2⟩ := gh.ext h5.fr
 exact hK ι w' v (g.carry c2) (g2.less (fun _ _ h => h) (fun j hj => hj.1)).1 (Rd.free _ _ hfr h4)
end
theorem RnL.app {ρ:Nat → Option Nat}:∀ {a a' b b':List AV},RnL ρ a a' → RnL ρ b b' → RnL ρ (a ++ b) (a' ++ b')
 | [], a', b, b', ha, hb => by
  have := ha.len
  cases a' with
  | nil => exact hb
  | cons _ _ => simp at this
 | c :: cs, _, b, b', .pur hp, hb => by
  simp only [bF,Bool.and_eq_true] at hp
  exact .cons (.pur hp.1) (RnL.app (.pur hp.2) hb)
 | c :: cs,_,b,b',.cons h1 h2,hb => .cons h1 (RnL.app h2 hb)
section
variable {P : Program} {N : Nat} {Q : Exit → AS → Prop}
theorem I1 {c:Code}{s s':AS}(k:Le s s') (h:AW P N c Q s'):AW P N c Q s := h.le k
end
attribute [local irreducible] cW
theorem Le.virt {ts:List (Nat × AV)}{hs:List (Nat × Option (List AV))}{n:Nat}{z0:Lo}(hn:n < cW):Le ⟨ts,hs,n,z0⟩ ⟨ts,(n,some []) :: hs,n + 1,z0⟩:=by
 rintro C a w ⟨h0,ι,g,gh⟩
 obtain ⟨g1,c1⟩ := gh.virt (id := n) ⟨Nat.le_refl _,.inl hn⟩
 have e : aO ((n,some []) :: hs) = dB (aO hs) n (some []) := wL _ _ _
 refine ⟨h0,dB ι n (some none),?_,?_⟩
 ·show TG C _ (lk ts) (aO ((n, some []) :: hs)) a w
  rw [e]; exact g.carry c1
 ·show HG C _ _ (aO ((n, some []) :: hs)) w
  rw [e]
  refine (g1.less (fun _ _ h => h) (fun j hj => ?_)).1
  have h1 : n + 1 ≤ j := hj.1
  exact ⟨⟨by show n ≤ j;omega,hj.2⟩,by omega⟩
theorem Le.cellsN {ts:List (Nat × AV)}{hs:List (Nat × Option (List AV))}{n:Nat}{z0:Lo}{i q:Nat}{cs cs' cq:List AV}(hi:aO hs i = some cs) (hq:aO hs q = some cq) (hl:cs'.length = cs.length)
  (h : ∀ (w : World) (bad : Nat → Prop) (ι : Pl) (b β : Nat),(∃ p,ι q = some p) → RdC w bad ι cs b β → RdC w bad ι cs' b β) :
  Le ⟨ts,hs,n,z0⟩ ⟨ts,(i,some cs') :: hs,n,z0⟩ := by
 rintro C a w ⟨h0,ι,g,gh⟩
 have hqq : ∃ p, ι q = some p := by
  rcases gh.obj q cq hq with ⟨p1,_⟩ | ⟨_,_,_,_,p1,_⟩ <;> exact ⟨_,p1⟩
 have hk : ∀ id c, aO ((i, some cs') :: hs) id = some c → (id = i ∧ c = cs') ∨ (id ≠ i ∧ aO hs id = some c) := by
  intro id c hc
  rw [dS] at hc
  split at hc
  ·rename_i e;cases hc;exact .inl ⟨e,rfl⟩
  ·rename_i e;exact .inr ⟨fun h => e h,hc⟩
 have hk2 : ∀ id c, aO hs id = some c → ∃ c', aO ((i, some cs') :: hs) id = some c' := by
  intro id c hc
  rw [dS]
  split
  ·exact ⟨_,rfl⟩
  ·exact ⟨_,hc⟩
 have hb : aH C.X ι (aO ((i, some cs') :: hs)) = aH C.X ι (aO hs) := by
  funext b
  refine propext ⟨?_,?_⟩
  ·rintro (h | ⟨id, c, β, h1, h2⟩)
   ·exact .inl h
   ·rcases hk id c h1 with ⟨rfl, _⟩ | ⟨_, h3⟩
    ·exact .inr ⟨_,_,_,hi,h2⟩
    ·exact .inr ⟨_,_,_,h3,h2⟩
  ·rintro (h | ⟨id, c, β, h1, h2⟩)
   ·exact .inl h
   ·obtain ⟨c', h3⟩ := hk2 id c h1
    exact .inr ⟨_,_,_,h3,h2⟩
 refine ⟨h0,ι,⟨g.df,g.sz,fun t av ht => ?_⟩,?_,?_,gh.fr,gh.ex,gh.fresh⟩
 ·show ∃ y, a.tmps[t]? = some y ∧ Rd w (aH C.X ι (aO ((i, some cs') :: hs))) ι av y
  rw [hb]; exact g.tm t av ht
 ·intro id c hc
  show _ ∨ ∃ b β arr e,ι id = some (some (b,β)) ∧ w.heap[b]? = some (.cells arr e (0,0)) ∧ β + c.length ≤ arr.size ∧ RdC w (aH C.X ι (aO ((i,some cs') :: hs))) ι c b β ∧ ¬ C.X b ∧ (C.W0 b ∨ C.w0.heap.size ≤ b)
  rw [hb]
  rcases hk id c hc with ⟨rfl,rfl⟩ | ⟨_,h3⟩
  ·rcases gh.obj _ _ hi with ⟨q1, q2⟩ | ⟨b, β, arr, e, q1, q2, q3, q4, q5⟩
   ·subst q2
    exact .inl ⟨q1,List.eq_nil_of_length_eq_zero hl⟩
   ·exact .inr ⟨b,β,arr,e,q1,q2,by rw [hl]; exact q3,h _ _ _ _ _ hqq q4,q5⟩
  ·exact gh.obj _ _ h3
 ·intro id id' c c' b β β' h1 h2 h3 h4
  obtain ⟨d1, e1⟩ : ∃ d, aO hs id = some d := by
   rcases hk id c h1 with ⟨rfl,_⟩ | ⟨_,h⟩
   ·exact ⟨_,hi⟩
   ·exact ⟨_,h⟩
  obtain ⟨d2, e2⟩ : ∃ d, aO hs id' = some d := by
   rcases hk id' c' h2 with ⟨rfl,_⟩ | ⟨_,h⟩
   ·exact ⟨_,hi⟩
   ·exact ⟨_,h⟩
  exact gh.sep id id' d1 d2 b β β' e1 e2 h3 h4
theorem nO {w:World}{bad:Nat → Prop}{ι:Pl}{c c':AV}(hc:∀ y,Rd w bad ι c y → Rd w bad ι c' y):∀ (a:List AV) (r:List AV) (b o:Nat),RdC w bad ι (a ++ c :: r) b o → RdC w bad ι (a ++ c' :: r) b o
 | [], r, b, o, h => by
  simp only [List.nil_append,RdC] at h ⊢
  obtain ⟨⟨x,h1,h2,h3⟩,h4⟩ := h
  exact ⟨⟨x,h1,h2,hc _ h3⟩,h4⟩
 | x :: a, r, b, o, h => by
  simp only [List.cons_append,RdC] at h ⊢
  exact ⟨h.1,nO hc a r b (o + 1) h.2⟩
theorem Le.nilCell {ts:List (Nat × AV)}{hs:List (Nat × Option (List AV))}{n:Nat}{z0:Lo}{i:Nat}(e:Nat) (c1:List AV){c2:List AV}(hi:aO hs i = some (c1 ++ .v (.slice none 0 0) :: c2)) (hin:i ≠ n) (hn:n < cW) :
  Le ⟨ts,hs,n,z0⟩ ⟨ts,(i,some (c1 ++ .own n 0 0 e :: c2)) :: (n,some []) :: hs,n + 1,z0⟩ :=
 (Le.virt hn).trans (Le.cellsN (q := n) (cs := c1 ++ .v (.slice none 0 0) :: c2) (by rw [dS, if_neg hin]; exact hi) (by rw [dS, if_pos rfl]) (by simp) fun w bad ι b β hp hr =>
  nO (fun y hy => by simp only [Rd] at hy ⊢; exact .inl ⟨hp,trivial,none,hy⟩) c1 c2 b β hr)
theorem Le.frzC {ts:List (Nat × AV)}{hs:List (Nat × Option (List AV))}{n:Nat}{z0:Lo}{j i m e:Nat}(c1:List AV){c2 d:List AV}(hj:aO hs j = some (c1 ++ .own i 0 m e :: c2)) (hi:aO hs i = some d) (hij:j ≠ i) :
  Le ⟨ts,hs,n,z0⟩ ⟨ts,(j,some (c1 ++ .imm m d :: c2)) :: (i,none) :: hs,n,z0⟩ := by
 rintro C a w ⟨h0,ι,g,gh⟩
 have hk : ∀ id c, aO ((j, some (c1 ++ .imm m d :: c2)) :: (i, none) :: hs) id = some c → (id = j ∧ c = c1 ++ .imm m d :: c2) ∨ (id ≠ j ∧ id ≠ i ∧ aO hs id = some c) := by
  intro id c hc
  rw [dS] at hc
  split at hc
  ·rename_i e;cases hc;exact .inl ⟨e,rfl⟩
  ·rename_i e
   rw [dS] at hc
   split at hc
   ·cases hc
   ·rename_i e2;exact .inr ⟨e,e2,hc⟩
 have hk2 : ∀ id c, aO ((j, some (c1 ++ .imm m d :: c2)) :: (i, none) :: hs) id = some c → id ≠ i ∧ ∃ c', aO hs id = some c' := by
  intro id c hc
  rcases hk id c hc with ⟨rfl,_⟩ | ⟨_,h2,h3⟩
  ·exact ⟨hij,_,hj⟩
  ·exact ⟨h2,_,h3⟩
 have hbad : ∀ b, aH C.X ι (aO ((j, some (c1 ++ .imm m d :: c2)) :: (i, none) :: hs)) b → aH C.X ι (aO hs) b := by
  rintro b (h | ⟨id,c,β,h1,h2⟩)
  ·exact .inl h
  ·obtain ⟨_, c', h3⟩ := hk2 id c h1
   exact .inr ⟨id,c',β,h3,h2⟩
 have car : Carry w (aH C.X ι (aO hs)) ι w (aH C.X ι (aO ((j,some (c1 ++ .imm m d :: c2)) :: (i,none) :: hs))) ι := ⟨fun b o x h1 h2 => ⟨fun q => h1 (hbad b q),h2⟩,fun _ _ h => h,fun _ => Nat.le_refl _⟩
 have hcell : ∀ y, Rd w (aH C.X ι (aO ((j, some (c1 ++ .imm m d :: c2)) :: (i, none) :: hs))) ι (.own i 0 m e) y → Rd w (aH C.X ι (aO ((j, some (c1 ++ .imm m d :: c2)) :: (i, none) :: hs))) ι (.imm m d) y := by
  intro y hr
  simp only [Rd] at hr ⊢
  rcases hr with ⟨_,h2,a',h3⟩ | ⟨b,β,c,h1,h2,h3,h4⟩
  ·subst h2;exact ⟨a',0,h3,.inl rfl⟩
  ·refine ⟨_, c, h2, ?_⟩
   rcases Nat.eq_zero_or_pos m with h5|h5
   ·exact .inl h5
   ·refine .inr ⟨b, β + 0, h3, rfl, ?_⟩
    rcases gh.obj i d hi with ⟨q1,q2⟩ | ⟨b',β',arr,e',q1,q2,q3,q4,q5,q6⟩
    ·rw [h1] at q1;cases q1
    ·rw [h1] at q1; cases q1
     refine .inr ⟨?_,RdC.carryB car _ _ _ (fun o x hx => hx) q4⟩
     rintro (h | ⟨id',cs',β',r1,r2⟩)
     ·exact q5 h
     ·obtain ⟨r3, c', r4⟩ := hk2 id' cs' r1
      exact r3 (gh.sep _ _ _ _ _ _ _ r4 hi r2 h1)
 refine ⟨h0,ι,g.carry car,⟨fun id c hc => ?_,fun id id' c c' b β β' h1 h2 h3 h4 => ?_,gh.fr,gh.ex,gh.fresh⟩⟩
 ·rcases hk id c hc with ⟨rfl, rfl⟩ | ⟨_, _, h3⟩
  ·rcases gh.obj _ _ hj with ⟨q1, q2⟩ | ⟨b, β, arr, e, q1, q2, q3, q4, q5⟩
   ·simp at q2
   ·exact .inr ⟨b,β,arr,e,q1,q2,by simpa using q3,nO hcell c1 c2 b β (RdC.carryB car _ _ _ (fun o x hx => hx) q4),q5⟩
  ·rcases gh.obj _ _ h3 with ⟨q1, q2⟩ | ⟨b, β, arr, e, q1, q2, q3, q4, q5⟩
   ·exact .inl ⟨q1,q2⟩
   ·exact .inr ⟨b,β,arr,e,q1,q2,q3,RdC.carryB car _ _ _ (fun o x hx => hx) q4,q5⟩
 ·obtain ⟨_, d1, e1⟩ := hk2 id c h1
  obtain ⟨_,d2,e2⟩ := hk2 id' c' h2
  exact gh.sep id id' d1 d2 b β β' e1 e2 h3 h4
theorem E8 {cs:List AV}{v:Nat}{c:AV}:eR cs (0 + v * 1) [c] = cs.take v ++ c :: cs.drop (v + 1):=by
 unfold eR;simp
structure Hy (T : Prop) : Prop where pf : T
theorem I5:(∀ a b:Bool,((a && b) = true) = (a = true ∧ b = true)) ∧ (∀ a b:Bool,((a && b) = false) ↔ (a = false ∨ b = false)) ∧ (∀ a b:Bool,((a || b) = true) = (a = true ∨ b = true)) ∧ (∀ a b:Bool,((a || b) = false) ↔ (a = false ∧ b = false)) ∧
  (∀ (p : Prop) [Decidable p],(decide p = true) = p) ∧ (∀ (p : Prop) [Decidable p],(decide p = false) ↔ ¬ p) ∧ (∀ a : Bool,((!a) = true) ↔ a = false) ∧ (∀ a : Bool,((!a) = false) ↔ a = true) ∧ ((!true) = false) ∧ ((!false) = true) ∧ (∀ a b : Int,¬ a < b ↔ b ≤ a) ∧ (∀ a b : Int,¬ a ≤ b ↔ b < a) :=
 ⟨fun a b => Bool.and_eq_true a b,fun a b => Bool.and_eq_false_iff,fun a b => Bool.or_eq_true a b,fun a b => Bool.or_eq_false_iff,fun p _ => by simp,fun p _ => decide_eq_false_iff_not,fun a => by simp,fun a => by simp,rfl,rfl,fun _ _ => Int.not_lt,fun _ _ => Int.not_le⟩
theorem kH:(∀ {α:Type}(a b:List α),(a ++ b).length = a.length + b.length) ∧ (∀ {α:Type}(a:α) (b:List α),(a :: b).length = b.length + 1) ∧ (∀ {α:Type},([]:List α).length = 0) ∧ (∀ {α:Type}(a:List α) (i:Nat) (x:α),(a.set i x).length = a.length) ∧ (∀ {α:Type}(i:Nat) (a:List α),(a.take i).length = min i a.length) ∧
  (∀ {α β : Type} (f : α → β) (a : List α),(a.map f).length = a.length) ∧ (∀ {α : Type} (n : Nat) (a : α),(List.replicate n a).length = n) ∧ (∀ (l : List Stmt) (b : Nat),(eY b l).length = cY l) ∧ (∀ n : Nat,n * 1 = n) ∧ (∀ n : Nat,0 + n = n) ∧ (∀ n : Nat,n + 0 = n) :=
 ⟨fun _ _ => List.length_append,fun _ _ => rfl,rfl,fun _ _ _ => List.length_set,fun _ _ => List.length_take,fun _ _ => List.length_map _,fun _ _ => List.length_replicate,bI,Nat.mul_one,Nat.zero_add,Nat.add_zero⟩
theorem c9 {α:Type}{p q r:α → Prop}(x:α) (h3:r x) (h1:p x) (h2:q x):∃ x,p x ∧ q x ∧ r x := ⟨x,h1,h2,h3⟩
theorem Jd {G K:Prop}(k:K) (h:Hy K → G := by first|(intro k;(first|((with_reducible apply mD);(case hx => rfl);(case hH => rfl);(case hf => infer_instance);(case hg => infer_instance);(case hα => infer_instance);(case hk => omega);(case hc => rfl);(case hN => rfl))  | ((with_reducible apply AX);(case hx => rfl);(case hH => rfl);(case hf => infer_instance);(case hg => infer_instance);(case hα => infer_instance);(case hk => omega);(case h0 => rfl);(case hN => rfl)) | ((with_reducible apply DA);(case hx => rfl);(case hd => rfl);(case hc => rfl);(case hN => rfl)) | ((with_reducible apply CS);(case hx => rfl);(case hd => rfl);(case hc => (first|exact (rfl:_ = [_]) | exact (rfl:_ = [_,_]) | exact (rfl:_ = [_,_,_]) | exact (rfl:_ = [_,_,_,_]) | exact (rfl:_ = [_,_,_,_,_]) | exact (rfl:_ = [_,_,_,_,_,_]) | exact (rfl:_ = [_,_,_,_,_,_,_]) | exact (rfl:_ = [_,_,_,_,_,_,_,_]) | rfl));(case hn => rfl);(case h0 => rfl);(case hN => rfl)) );exact k.pf) | fail):G := h ⟨k⟩
theorem Jc {G K:Prop}(k:K) (h:Hy K → G := by first|(intro k;(first|((with_reducible apply AR);(case hj => rfl);(case hb => rfl);(case hN => rfl)) | ((with_reducible apply Bj);(case hj => rfl);(case hb => rfl);(case hN => rfl);(case hw => first|rfl | assumption)) | ((with_reducible apply wZ);(case hj => rfl);(case hb => rfl);(case hN => rfl);(case hw => first|rfl | assumption)) );exact k.pf) | fail):G := h ⟨k⟩
theorem Jf {G K:Prop}(k:K) (h:Hy K → G := by first|(intro k;(first  | ((with_reducible apply G7);(case hx => rfl);(case hy => rfl);(case hk => infer_instance);(case ha => infer_instance);(case hb => infer_instance);(case hN => rfl)) | ((with_reducible apply Fc);(case hx => rfl);(case hy => rfl);(case hk => infer_instance);(case ha => infer_instance);(case hN => rfl))  | ((with_reducible apply EU);(case hx => rfl);(case hy => rfl);(case hk => infer_instance);(case ha => infer_instance);(case h => omega);(case hN => rfl)) | ((with_reducible apply HD);(case hx => rfl);(case hy => rfl);(case h => omega);(case hN => rfl)) | ((with_reducible apply HE);(case hx => rfl);(case hy => rfl);(case h => omega);(case hN => rfl))  | ((with_reducible apply Hs);(case hx => rfl);(case hy => rfl);(case h => omega);(case hN => rfl)) | ((with_reducible apply HW);(case hx => rfl);(case hy => rfl);(case h => omega);(case hN => rfl)) | ((with_reducible apply HY);(case hx => rfl);(case hy => rfl);(case h => rfl);(case hN => rfl)));exact k.pf) | fail):G := h ⟨k⟩
theorem Jp {G K:Prop}(k:K) (h:Hy K → G := by first|(intro k;(first|((with_reducible apply xE);(case hx => rfl);(case hi => rfl);(case hm => (first|assumption | omega));(case hml => (first|rfl|assumption|omega));(case hα => infer_instance);(case hf => infer_instance);(case hg => infer_instance);(case hN => rfl)) | ((with_reducible apply xQ);(case hx => rfl);(case hi => rfl);(case hm => (first|assumption | omega));(case hN => rfl)) | ((with_reducible apply BE);(case hx => rfl);(case hi => rfl);(case hm => (first|assumption | omega | exact ⟨Int.emod_nonneg _ (by omega),Int.emod_lt_of_pos _ (by omega)⟩));(case hml => (first|rfl|assumption|omega));(case hα => infer_instance);(case hf => infer_instance);(case hg => infer_instance);(case hN => rfl)) | ((with_reducible apply BA);(case hx => rfl);(case hi => rfl);(case hm => (first|assumption | omega | exact ⟨Int.emod_nonneg _ (by omega),Int.emod_lt_of_pos _ (by omega)⟩));(case hN => rfl)) );exact k.pf) | fail):G := h ⟨k⟩
theorem Jg {G K:Prop}(k:K) (h:Hy K → G := by first|(intro k;(first|((with_reducible apply GD);(case hx => rfl);(case hn => rfl);(case hN => rfl))  | ((with_reducible apply dH);(case hx => rfl);(case hy => rfl);(case hze => rfl);(case he0 => rfl);(case hH => rfl);(case hl => first|(rw [aI]; omega) | (rw [aI]; simp only [kH] <;> omega) | (simp [aI]; done) | decide | (simp;omega));(case hs' => first|rfl | exact Gx (by (first|rfl | assumption | omega)));(case hbig => omega);(case hmx => omega);(case hcs => first  | exact uB (by (first|assumption | omega | (simp only [kH] <;> omega) | decide))  | exact Df (by (first|assumption | omega | (simp only [kH] <;> omega) | decide)) | exact D3 (by (first|assumption | omega | (simp only [kH] <;> omega) | decide)) | exact ES (by (first|assumption | omega | (simp only [kH] <;> omega) | decide))    | exact (rfl:_ = [_]) | exact (rfl:_ = [_,_]) | exact (rfl:_ = [_,_,_]) | exact (rfl:_ = [_,_,_,_]) | exact (rfl:_ = [_,_,_,_,_]) | exact (rfl:_ = [_,_,_,_,_,_]) | exact (rfl:_ = [_,_,_,_,_,_,_]) | exact (rfl:_ = [_,_,_,_,_,_,_,_]) | rfl);(case hM => rfl);(case hN => rfl)));exact k.pf) | fail):G := h ⟨k⟩
theorem Jo {G K:Prop}(k:K) (h:Hy K → G := by first|(intro k;(first|((with_reducible apply Bz);(case hl => rfl);(case hf => (first|exact (rfl:_ = some [_]) | exact (rfl:_ = some [_,_]) | exact (rfl:_ = some [_,_,_]) | exact (rfl:_ = some [_,_,_,_]) | exact (rfl:_ = some [_,_,_,_,_]) | exact (rfl:_ = some [_,_,_,_,_,_]) | exact (rfl:_ = some [_,_,_,_,_,_,_]) | exact (rfl:_ = some [_,_,_,_,_,_,_,_]) | rfl));(case hk => (first|exact (rfl:_ = [_]) | exact (rfl:_ = [_,_]) | exact (rfl:_ = [_,_,_]) | exact (rfl:_ = [_,_,_,_]) | exact (rfl:_ = [_,_,_,_,_]) | exact (rfl:_ = [_,_,_,_,_,_]) | exact (rfl:_ = [_,_,_,_,_,_,_]) | exact (rfl:_ = [_,_,_,_,_,_,_,_]) | rfl));(case hN => rfl)) | ((with_reducible apply vM);(case hl => rfl);(case hf => (first|exact (rfl:_ = some [_]) | exact (rfl:_ = some [_,_]) | exact (rfl:_ = some [_,_,_]) | exact (rfl:_ = some [_,_,_,_]) | exact (rfl:_ = some [_,_,_,_,_]) | exact (rfl:_ = some [_,_,_,_,_,_]) | exact (rfl:_ = some [_,_,_,_,_,_,_]) | exact (rfl:_ = some [_,_,_,_,_,_,_,_]) | rfl));(case hN => rfl)));exact k.pf) | fail):G := h ⟨k⟩
theorem Je {G K:Prop}(k:K) (h:Hy K → G := by first|(intro k;(first|((with_reducible apply kK);(case hze => rfl);(case hsm => rfl);(case hl => rfl);(case hfl => (first|exact (rfl:_ = some [_]) | exact (rfl:_ = some [_,_]) | exact (rfl:_ = some [_,_,_]) | exact (rfl:_ = some [_,_,_,_]) | exact (rfl:_ = some [_,_,_,_,_]) | exact (rfl:_ = some [_,_,_,_,_,_]) | exact (rfl:_ = some [_,_,_,_,_,_,_]) | exact (rfl:_ = some [_,_,_,_,_,_,_,_]) | rfl));(case hM => rfl);(case hN => rfl)) | ((with_reducible apply pW);(case hx => rfl);(case hy => rfl);(case hze => rfl);(case hsm => omega);(case hmx => omega);(case hcs => first|exact H3 | exact mk_natW | exact mk_natW6 | exact EH | rfl);(case hM => rfl);(case hN => rfl)));exact k.pf) | fail):G := h ⟨k⟩
theorem Jh {G K:Prop}(k:K) (h:Hy K → G := by first|(intro k;(first|((with_reducible apply bC);(case hx => rfl);(case hy => rfl);(case hc => rfl);(case hn => rfl);(case hH => rfl);(case hl => (first|decide|(rw [aI]; simp only [kH] <;> omega)|omega|(simp;done)|(simp;omega)));(case hcs => first      | exact CK (by (first|assumption | omega | (simp only [kH] <;> omega) | decide)) | exact Cw (by (first|assumption | omega | (simp only [kH] <;> omega) | decide))     | exact HO (by (first|assumption | omega | (simp only [kH] <;> omega) | decide)) | exact EI (by (first|assumption | omega | (simp only [kH] <;> omega) | decide))  | exact (rfl:_ = [_]) | exact (rfl:_ = [_,_]) | exact (rfl:_ = [_,_,_]) | exact (rfl:_ = [_,_,_,_]) | exact (rfl:_ = [_,_,_,_,_]) | exact (rfl:_ = [_,_,_,_,_,_]) | exact (rfl:_ = [_,_,_,_,_,_,_]) | exact (rfl:_ = [_,_,_,_,_,_,_,_]) | rfl)) );exact k.pf) | fail):G := h ⟨k⟩
theorem b8 {G K:Prop}(k:K) (h:Hy K → G := by first|(intro k;(first|((with_reducible apply aF);first|((with_reducible apply F1);(case hx => rfl);(case hN => rfl)) | ((with_reducible apply FU);refine Jd ?_) | ((with_reducible apply sH);(case hx => rfl);(case hp => rfl);(case hN => rfl)) | ((with_reducible apply IB);refine Jc ?_) | ((with_reducible apply H2);refine Jf ?_) | ((with_reducible apply qH);(case hx => rfl);(case hN => rfl)) | ((with_reducible apply EO);first|((with_reducible apply Cv);(case hc => rfl);(case hb => first|rfl | assumption);(case hx => rfl);(case hN => rfl)) | ((with_reducible apply Eg);(case hc => rfl);(case hb => first|rfl | assumption);(case hx => rfl);(case hN => rfl))) | ((with_reducible apply GN);refine Jp ?_) | ((with_reducible apply Ii);refine Jg ?_) | ((with_reducible apply Hq);(case hf => kernel_rfl)) | ((with_reducible apply HV);refine Jo ?_) | ((with_reducible apply H4);first|((with_reducible apply BH);(case hx => rfl);(case hf => infer_instance);(case hl => rfl);(case hh => rfl);(case hb => first|omega | (simp only [List.length_take,List.length_drop,Int.toNat_natCast]; omega));(case hN => rfl))) | ((with_reducible apply mZ);(case hf => rfl);(case hc => rfl);(case hN => rfl)) | ((with_reducible apply HL);(case hx => rfl);(case hN => rfl)) | ((with_reducible apply Hr);(case hx => rfl);(case hp => rfl);(case hN => rfl)) | ((with_reducible apply GF);(case hx => rfl);(case hc => rfl);(case hM => rfl);(case hN => rfl)) | ((with_reducible apply DM);(case hM => rfl);(case hN => rfl)) | ((with_reducible apply w8);(case hx => rfl);(case hc => rfl);(case hN => rfl)) | refine Je ?_ | refine Jh ?_));exact k.pf) | fail):G := h ⟨k⟩
theorem Jq {G K:Prop}(k:K) (h:Hy K → G := by first|(intro k;(first|((with_reducible apply zH);first|with_reducible apply GR | with_reducible apply AO | ((with_reducible apply DJ);(case hc => rfl);(case hb => first|rfl | assumption)) | ((with_reducible apply Dp);(case hc => rfl);(case hb => first|rfl | assumption)) | with_reducible apply Dx | with_reducible apply Er | with_reducible apply FN | with_reducible apply GH ) | with_reducible apply BB | with_reducible apply HJ | with_reducible apply EX | with_reducible apply BC | with_reducible apply Gr | with_reducible apply Fu | ((with_reducible apply bq_out);(case hij => decide)));exact k.pf) | fail):G := h ⟨k⟩
theorem aL {G c1 q1 c2 q2 K1 K2:Prop}(k1:c1 → q1 → K1) (k2:c2 → q2 → K2) (h:Hy (c1 → q1 → K1) → Hy (c2 → q2 → K2) → G := by first|(intro k1 k2;(with_reducible apply zH);(with_reducible apply rW);(case hc => rfl);(intro hc;have hq := hc;(try simp only [I5] at hq);first|exact k1.pf hc hq | exact k1.pf hc trivial);(intro hc;have hq := hc;(try simp only [I5] at hq);first|exact k2.pf hc hq | exact k2.pf hc trivial)) | fail):G := h ⟨k1⟩ ⟨k2⟩
theorem cS {G c1 q1 c2 q2 K1 K2:Prop}(k1:c1 → q1 → K1) (k2:c2 → q2 → K2) (h:Hy (c1 → q1 → K1) → Hy (c2 → q2 → K2) → G := by first|(intro k1 k2;(with_reducible apply aF);(with_reducible apply IB);(with_reducible apply AP);(case hj => rfl);(case hb => rfl);(case hN => rfl);(intro hc;have hq := hc;(try simp only [I5] at hq);first|exact k1.pf hc hq | exact k1.pf hc trivial);(intro hc;have hq := hc;(try simp only [I5] at hq);first|exact k2.pf hc hq | exact k2.pf hc trivial)) | fail):G := h ⟨k1⟩ ⟨k2⟩
theorem cC {G K:Prop}(k:K) (h:Hy K → G := by first|(intro k;(with_reducible apply zH);(with_reducible apply FY);(case hm => kernel_rfl);exact k.pf) | fail):G := h ⟨k⟩
theorem eS {G K:Prop}(k:K) (h:Hy K → G := by first|(intro k;(with_reducible apply aC);(case hr => rfl);exact k.pf) | fail):G := h ⟨k⟩
theorem Ee {ts:List (Nat × AV)}:mB [] ts = [] := rfl
theorem Bb {k:Nat}{v:AV}{ks:List Nat}{ts kt:List (Nat × AV)}(h:lk ts k = some v) (h2:mB ks ts = kt):mB (k :: ks) ts = (k,v) :: kt:=by
 subst h2;simp [mB,h]
theorem DI {hs:List (Nat × Option (List AV))}:m3 [] hs = [] := rfl
theorem AG {k:Nat}{v:List AV}{ks:List Nat}{hs kh:List (Nat × Option (List AV))}(h:aO hs k = some v) (h2:m3 ks hs = kh):m3 (k :: ks) hs = (k,some v) :: kh:=by
 subst h2;simp [m3,h]
section
variable {P : Program} {N : Nat} {Q : Exit → AS → Prop} {σ : Type} {c : Code} {ts : List (Nat × AV)} {hs : List (Nat × Option (List AV))} {n : Nat} {z0 : Lo}
theorem aK (ks js:List Nat){kt:List (Nat × AV)}{kh:List (Nat × Option (List AV))}(ot:σ → List (Nat × AV)) (oh:σ → List (Nat × Option (List AV))) (p:σ → Prop) (μ:σ → Nat) (i0:σ) (h0:p i0)
  (round : ∀ i,p i → AW P N c (oT (fun s' => ∃ j,p j ∧ μ j < μ i ∧ Le s' ⟨ot j ++ kt,oh j ++ kh,n,z0⟩) Q) ⟨ot i ++ kt,oh i ++ kh,n,z0⟩)
  (hk : mB ks ts = kt := by repeat' (first|exact Ee|(apply Bb;rfl))) (hj : m3 js hs = kh := by repeat' (first|exact DI|(apply AG;rfl)))
  (h1 : m9 ts (ot i0) := by repeat' (first|exact trivial|refine And.intro rfl ?_)) (h2 : l8 hs (oh i0) := by repeat' (first|exact trivial|refine And.intro (.inr rfl) ?_)) : AW P N (.loop c) Q ⟨ts,hs,n,z0⟩ :=
 BW ks kt js kh ot oh p μ i0 h0 hk hj h1 h2 round
end
theorem Le.renA (m:List (Nat × Nat)){ts ts':List (Nat × AV)}{hs hs':List (Nat × Option (List AV))}{n n':Nat}{lo:Lo}(hm:Gk lo.lo n' m = true := by rfl) (hn:lo.lo ≤ n' := by decide)
  (h1 : DN m lo ts ts' := by repeat' (first|exact trivial|refine And.intro ⟨_,rfl,?_⟩ ?_|refine And.intro ⟨_,_,rfl,rfl,?_⟩ ?_|exact Or.inr rfl|refine Or.inl ⟨?_,(by first|rfl|exact cR _ _|exact Pur.pf|exact PurV.pf)⟩|refine Or.inr (All2.cons ?_ ?_)|refine All2.cons ?_ ?_|exact All2.nil|rfl))
  (h2 : uS m lo hs hs' := by repeat' (first|exact trivial|refine And.intro ⟨_,rfl,?_⟩ ?_|refine And.intro ⟨_,_,rfl,rfl,?_⟩ ?_|exact Or.inr rfl|refine Or.inl ⟨?_,(by first|rfl|exact cR _ _|exact Pur.pf|exact PurV.pf)⟩|refine Or.inr (All2.cons ?_ ?_)|refine All2.cons ?_ ?_|exact All2.nil|rfl)) : Le ⟨ts,hs,n,lo⟩ ⟨ts',hs',n',lo⟩ :=
 Le.ren m hm hn h1 h2
section
variable {P : Program} {k : FuncId} {fn : Func} {c : Code} {args : List AV} {N : Nat}
theorem aD {Q:AV → Prop}(hf:P.funcs[k]? = some fn) (hn:fn.ntmps = N) (h:AW P N c (tB P fn.results (fun r _ => Q r ∧ r.pur = true)) ⟨dY 0 args,[],0,⟨0,cW⟩⟩) (hb:fn.body = some c := by rfl)
  (hN : args.length ≤ N := by simp) : PC P k args Q := by subst hn;exact DP hf hb hN h
theorem aT {σ:Type}{H0:List (Nat × Option (List AV))}{n:Nat}{p:σ → Prop}{rr:σ → AV}{hh:σ → List (Nat × Option (List AV))}(hf:P.funcs[k]? = some fn) (hn:fn.ntmps = N)
  (h : AW P N c (tB P fn.results (fun r H' => ∃ x,p x ∧ r = rr x ∧ ∀ id cs,aO (hh x) id = some cs → H' id = some cs)) ⟨dY 0 args,H0,n,⟨n,cW⟩⟩) (hb : fn.body = some c := by rfl)
  (hN : args.length ≤ N := by simp) : MC P k args H0 n p rr hh := by subst hn;exact DK hf hb hN h
end
theorem sE {p:Prop}{α:Type}{a c:Option α}{b:α}(h:some b = c) (e:a = some b := by rfl):p ∨ a = c := .inr (e.trans h)
section
variable {P : Program} {N : Nat} {Q : Exit → AS → Prop} {all : Array Oper} {rest : List Oper} {ts : List (Nat × AV)} {hs : List (Nat × Option (List AV))} {n : Nat} {z0 : Lo} {md : Md}
variable {ty : TypeId} {pos : String} {af : Array Edge}
theorem aZ {d:Nat}{k:FuncId}{l:List Operand}{tys:Array TypeId}{avs avs0:List AV}{H0:List (Nat × Option (List AV))}{rr rr':AV}{hh:List (Nat × Option (List AV))}
  (mp : List Nat) (n1 : Nat) (ws : List (Nat × Option (List AV))) (h : MC P k avs0 H0 mp.length (fun _ : Unit => True) (fun _ => rr) (fun _ => hh)) [hc : CaT P k] (ha : evL (lk ts) l = some avs) (hd : distinct mp = true)
  (hM : Nat.ble (n + (n1 - mp.length)) cW = true) (hN : Nat.blt d N = true)
  {md' : Md} [hmd : MdA md (fH l ++ mp.map .inr) (ws.map (fun p => .inr p.1) ++ [.inl d]) md']
  (kk : RW P N all Q md' rest ⟨(d,rr') :: ts,gH hs ws,n + (n1 - mp.length),z0⟩)
  (hH0 : pB hs H0 mp 0 mp := by repeat' (first|exact trivial|(refine And.intro ⟨_,_,rfl,by assumption,?_⟩ ?_)|exact RnL.purI inferInstance|exact rP rfl|exact RnV.purI inferInstance|exact RnV.own rfl|exact RnV.optr rfl|exact RnL.nil|refine RnL.cons ?_ ?_|refine RnV.agg ?_|refine RnV.tup ?_))
  (hk : kT mp.length H0 = true := by rfl)
  (har : RnL (mp[·]?) avs0 avs := by repeat' (first|exact RnL.purI inferInstance|exact rP rfl|exact RnV.purI inferInstance|exact RnV.own rfl|exact RnV.optr rfl|exact RnL.nil|refine RnL.cons ?_ ?_|refine RnV.agg ?_|refine RnV.tup ?_))
  (hr : RnV (tR mp n n1) rr rr' := by repeat' (first|exact RnL.purI inferInstance|exact rP rfl|exact RnV.purI inferInstance|exact RnV.own rfl|exact RnV.optr rfl|exact RnL.nil|refine RnL.cons ?_ ?_|refine RnV.agg ?_|refine RnV.tup ?_))
  (hwa : qE mp ws = true := by simp [qE])
  (hw : mQ (tR mp n n1) hh ws := by repeat' (first|exact trivial|(refine And.intro ⟨0,_,rfl,rfl,?_⟩ ?_)|(refine And.intro ⟨1,_,rfl,rfl,?_⟩ ?_)|(refine And.intro ⟨2,_,rfl,rfl,?_⟩ ?_)|(refine And.intro ⟨3,_,rfl,rfl,?_⟩ ?_)|(refine And.intro ⟨4,_,rfl,rfl,?_⟩ ?_)|(refine And.intro ⟨5,_,rfl,rfl,?_⟩ ?_)|(refine And.intro ⟨6,_,rfl,rfl,?_⟩ ?_)|exact RnL.purI inferInstance|exact rP rfl|exact RnV.purI inferInstance|exact RnV.own rfl|exact RnV.optr rfl|exact RnL.nil|refine RnL.cons ?_ ?_|refine RnV.agg ?_|refine RnV.tup ?_)) :
  RW P N all Q md (⟨some d,.call ⟨.value (.func k),l.toArray,tys⟩,ty,pos,af,none⟩ :: rest) ⟨ts,hs,n,z0⟩ :=
 cE mp n1 ws h (avs := avs) ha hd hH0 hk har hM hr hwa hw hN (md' := md') (hmd := hmd) kk
end
theorem aE {G K:Prop}(k:K) (h:Hy K → G := by first|(intro k;(first|refine b8 ?_ | refine Jq ?_);exact k.pf) | fail):G := h ⟨k⟩
end Go.AL
namespace Go.AL
def D5 (xs : List Bool) (k : Nat) : List Int := ((List.range k).filter (fun l => xs[l]!)).map (fun (l : Nat) => (l : Int))
theorem Fq {xs:List Bool}{k:Nat}(h:xs[k]! = true):D5 xs (k + 1) = D5 xs k ++ [(k:Int)]:=by
 unfold D5;rw [j3,if_pos h,List.map_append]; rfl
theorem CO {xs:List Bool}{k:Nat}(h:xs[k]! = false):D5 xs (k + 1) = D5 xs k:=by
 unfold D5;rw [j3,if_neg (by rw [h]; decide),List.append_nil]
theorem iK {A n:Nat}(hv:∀ v,A.testBit v = true → v < n):A < 2 ^ n := Nat.lt_pow_two_of_testBit _ fun v h => by
 cases hq : Nat.testBit _ v with
 | false => rfl
 | true => have := hv v hq;omega
theorem iJ {A n:Nat}(hn:n ≤ 62) (hv:A < 2 ^ n):Sm A := ⟨Nat.lt_of_lt_of_le hv (Nat.pow_le_pow_right (by decide) hn)⟩
structure FB (ts : List Int) (pts : List Pnt) (f : Flows ts pts) : Prop where
 la : f.Aa.length = pts.length
 lm : f.Am.length = pts.length
 ln : f.An.length = pts.length
 ll : f.Al.length = pts.length
 lp : f.Ap.length = pts.length
 bA : ∀ i : Nat,f.Aa[i]! < 2 ^ ts.length
 bM : ∀ i : Nat,f.Am[i]! < 2 ^ ts.length
 bN : ∀ i : Nat,f.An[i]! < 2 ^ ts.length
 bL : ∀ i : Nat,f.Al[i]! < 2 ^ ts.length
 bP : ∀ i : Nat,f.Ap[i]! < 2 ^ pts.length
 sA : ∀ i : Nat,Sm f.Aa[i]!
 sM : ∀ i : Nat,Sm f.Am[i]!
 sN : ∀ i : Nat,Sm f.An[i]!
 sL : ∀ i : Nat,Sm f.Al[i]!
 sP : ∀ i : Nat,Sm f.Ap[i]!
 rl : ∀ i,i < pts.length → (kF f.Af i).length = 6
 rs : ∀ i,i < pts.length → ∀ z : Nat,Sm (kF f.Af i)[z]!
 af : ∀ i,i < pts.length → I8 pts f.An i = f.Al[i]!
 kp : ∀ i,i < pts.length → Ek ts pts[i]! f.Al[i]! (kF f.Af i) < 2 ^ pts.length
 lo : ∀ i,i < pts.length → Ek ts pts[i]! f.Al[i]! (kF f.Af i) &&& f.Ap[i]! < 2 ^ pts.length
 cf : ∀ i,i < pts.length → H8 ts pts f.Am f.Al f.Af f.Ap i < 2 ^ pts.length
theorem Flows.bnd {ts:List Int}{pts:List Pnt}(f:Flows ts pts) (w:WG ts pts):FB ts pts f:=by
 have hpl := w.pl
 have htl := w.tl
 have off : ∀ {A : List Nat} {n : Nat} {i : Nat}, A.length = pts.length → ¬ i < pts.length → A[i]! < 2 ^ n := fun {A n i} h hi => by
  rw [getElem!_neg A i (by omega)]; exact Nat.pow_pos (by decide)
 have bA : ∀ i : Nat, f.Aa[i]! < 2 ^ ts.length := fun i => by
  by_cases hi : i < pts.length
  ·exact iK fun v hv => ((f.ga.2 i hi v).1 hv).1
  ·exact off f.ga.1 hi
 have bM : ∀ i : Nat, f.Am[i]! < 2 ^ ts.length := fun i => by
  by_cases hi : i < pts.length
  ·exact iK fun v hv => Gq w ((f.gm.2 i hi v).1 hv)
  ·exact off f.gm.1 hi
 have bN : ∀ i : Nat, f.An[i]! < 2 ^ ts.length := fun i => by
  by_cases hi : i < pts.length
  ·exact iK fun v hv => zK w ((f.gn.2 i hi v).1 hv)
  ·exact off f.gn.1 hi
 have bL : ∀ i : Nat, f.Al[i]! < 2 ^ ts.length := fun i => by
  by_cases hi : i < pts.length
  ·exact iK fun v hv => by obtain ⟨k,_,h⟩ := (f.gl.2 i hi v).1 hv;exact zK w h
  ·exact off f.gl.1 hi
 have bP : ∀ i : Nat, f.Ap[i]! < 2 ^ pts.length := fun i => by
  by_cases hi : i < pts.length
  ·exact iK fun v hv => (B8 ((f.gp.2 i hi v).1 hv)).1
  ·exact off f.gp.1 hi
 have rs : ∀ i, i < pts.length → ∀ z : Nat, (kF f.Af i)[z]! < 2 ^ pts.length := fun i hi z => by
  by_cases hz : z < 6
  ·rw [zQ f.gf.1 hi hz]
   exact iK fun v hv => (CZ w ((f.gf.2 i z hi hz v).1 hv)).2.2
  ·rw [getElem!_neg _ z (by rw [tS f.gf.1 hi]; exact hz)]; exact Nat.pow_pos (by decide)
 have kp : ∀ i, i < pts.length → Ek ts pts[i]! f.Al[i]! (kF f.Af i) < 2 ^ pts.length := fun i hi => iK fun v hv => by
  unfold Ek at hv
  rw [jG] at hv
  rcases hv with hv | ⟨z,hz,hv⟩
  ·simp at hv
  ·exact kR (rs i hi _) hv
 have lo : ∀ i,i < pts.length → Ek ts pts[i]! f.Al[i]! (kF f.Af i) &&& f.Ap[i]! < 2 ^ pts.length := fun i hi => Nat.and_lt_two_pow _ (bP i)
 refine ⟨f.ga.1, f.gm.1, f.gn.1, f.gl.1, f.gp.1, bA, bM, bN, bL, bP, fun i => iJ (by omega) (bA i), fun i => iJ (by omega) (bM i), fun i => iJ (by omega) (bN i), fun i => iJ (by omega) (bL i), fun i => iJ (by omega) (bP i),
  fun i hi => tS f.gf.1 hi,fun i hi z => iJ (by omega) (rs i hi z),fun i hi => ?_,kp,lo,fun i hi => H6 w (bP i)⟩
 rw [A3 f.gl (Cd w f.gn),v8 _ _ _ hi]
def wC (pts : List Pnt) (l : Nat) (c : Acc) : Bool := decide (c.var = pts[l]!.y) && (c.write || decide (pts[l]!.op = 5))
theorem C1 {ts:List Int}{pts:List Pnt}(w:WG ts pts) (f:Flows ts pts){i l:Nat}(hi:i < pts.length) (hl:l < pts.length) (hln:m8 pts[l]! = true) :
  (H8 ts pts f.Am f.Al f.Af f.Ap i).testBit l = ((AI ts pts[i]! (f.Am[i]!.testBit (aU pts[i]!).toNat)).any (wC pts l) && ((Ek ts pts[i]! f.Al[i]! (kF f.Af i)).testBit l && f.Ap[i]!.testBit l)) := by
 have b := f.bnd w
 have hpl := w.pl
 have hy := HB w hl hln
 rw [Bool.eq_iff_iff]
 unfold H8
 rw [jI _ _ _ (iJ (by omega) (b.lo i hi)),Bool.and_eq_true,List.any_eq_true,← Nat.testBit_and]
 simp only [Nat.zero_testBit,Bool.false_eq_true,false_or]
 constructor
 ·rintro ⟨c, hc, h1, h2, h3⟩
  refine ⟨⟨c,hc,?_⟩,h1⟩
  rw [mP] at h2
  simp only [Bool.and_eq_true,decide_eq_true_eq] at h2
  have e2 := h2.2.2
  rw [Nat.testBit_two_pow,decide_eq_true_eq] at e2
  have hcv := En _ w hi c hc
  unfold wC
  rw [decide_eq_true (by omega : c.var = pts[l]!.y)]
  rcases h3 with h3|h3
  ·rw [h3]; rfl
  ·rw [decide_eq_true h3]; simp
 ·rintro ⟨⟨c, hc, h⟩, h1⟩
  unfold wC at h
  simp only [Bool.and_eq_true,Bool.or_eq_true,decide_eq_true_eq] at h
  refine ⟨c,hc,h1,?_,h.2⟩
  rw [mP,decide_eq_true hl,hln,h.1,Nat.testBit_two_pow_self]; rfl
end Go.AL
namespace Go.AL
def Wy (pts : List Pnt) (a b : Nat) : Prop := Clo (fun b => eT pts a b) (fun b c => eT pts b c) b
theorem Wy.lt {pts:List Pnt}{a b:Nat}(w:∀ i,i < pts.length → ∀ k ∈ pts[i]!.next,0 ≤ k ∧ k < pts.length) (h:Wy pts a b):b < pts.length:=by
 cases h with
 | base e => have := w _ e.1 _ e.2;omega
 | step _ e => have := w _ e.1 _ e.2;omega
section
variable {P : Program} {C : Ctx} {ι : Pl} {F : Nat → Prop} {T : Nat → Option AV} {H : Nat → Option (List AV)} {a : Act} {w : World} {o : Oper}
theorem o7 (z:Array Value):∀ n,(Builtin.zeroCells z n).toList = (List.replicate n z.toList).flatten := fun n => by
 have := mA z n (n * z.size) rfl
 simpa [Builtin.zeroCells,madeCells] using this
end
theorem Le.cut {ts:List (Nat × AV)}{hs:List (Nat × Option (List AV))}{n:Nat}{z0:Lo}{i:Nat}{cs:List AV}(k:Nat) (hi:aO hs i = some cs) :
  Le ⟨ts,hs,n,z0⟩ ⟨ts,(i,some (cs.take k)) :: hs,n,z0⟩ := by
 rintro C a w ⟨h0,ι,g,gh⟩
 have hσ : ∀ id c, aO ((i, some (cs.take k)) :: hs) id = some c → ∃ c0, aO hs id = some c0 ∧ (c = c0 ∨ c = c0.take k) := by
  intro id c h
  rw [dS] at h
  split at h
  ·rename_i e;subst e;cases h;exact ⟨cs,hi,.inr rfl⟩
  ·exact ⟨c,h,.inl rfl⟩
 have car : Carry w (aH C.X ι (aO hs)) ι w (aH C.X ι (aO ((i, some (cs.take k)) :: hs))) ι := by
  refine ⟨fun b o' x h1 h2 => ⟨?_,h2⟩,fun _ _ h => h,fun _ => Nat.le_refl _⟩
  rintro (h | ⟨id,c,β,q1,q2⟩)
  ·exact h1 (.inl h)
  ·obtain ⟨c0, r, _⟩ := hσ id c q1
   exact h1 (.inr ⟨id,c0,β,r,q2⟩)
 refine ⟨h0,ι,⟨g.df,g.sz,fun t av ht => ?_⟩,⟨fun id c h => ?_,fun id id' c c' b β β' q1 q2 q3 q4 => ?_,gh.fr,gh.ex,gh.fresh⟩⟩
 ·obtain ⟨y, hy, hr⟩ := g.tm t av ht
  exact ⟨y,hy,Rd.carry car _ _ hr⟩
 ·obtain ⟨c0, r, e⟩ := hσ id c h
  rcases gh.obj id c0 r with ⟨h1,h2⟩ | ⟨b',β',arr',e',h1,h2,h3,h4,h5,h6⟩
  ·refine .inl ⟨h1, ?_⟩
   rcases e with e|e
   ·rw [e,h2]
   ·rw [e,h2]; simp
  ·refine .inr ⟨b', β', arr', e', h1, h2, ?_, ?_, h5, h6⟩
   ·rcases e with e | e
    ·rw [e]; exact h3
    ·rw [e,List.length_take]; omega
   ·have h7 := RdC.carryB car _ _ _ (fun o x hx => hx) h4
    rcases e with e|e
    ·rw [e]; exact h7
    ·rw [e]; exact RdC.take k h7
 ·obtain ⟨_, r1, _⟩ := hσ id c q1
  obtain ⟨_,r2,_⟩ := hσ id' c' q2
  exact gh.sep _ _ _ _ _ _ _ r1 r2 q3 q4
section
variable {P : Program} {N : Nat} {Q : Exit → AS → Prop} {all : Array Oper} {rest : List Oper} {ts : List (Nat × AV)} {hs : List (Nat × Option (List AV))} {n : Nat} {z0 : Lo}
variable {d : Nat} {ty : TypeId} {pos : String} {af : Array Edge}
theorem fO {fn:Go.Fn}{cs:Array Operand}{i:Nat}{cc c:List AV}(t:Nat) (hx:lk ts t = some (.optr i 0)) (hH:aO hs i = some cc) (hc:evL (lk ((t,.iptr cc) :: ts)) cs.toList = some c) (hN:Nat.blt d N = true)
  (kk : RW P N all Q .txt rest ⟨(d,.clos fn [] c) :: (t,.iptr cc) :: ts,(i,none) :: hs,n,z0⟩) : RW P N all Q .txt (⟨some d,.makeFunc fn #[] cs,ty,pos,af,none⟩ :: rest) ⟨ts,hs,n,z0⟩ :=
 fK (mZ (f := []) (c := c) rfl hc hN (md' := .txt) kk) (Le.frzP hx hH)
end
theorem yM {ts:List Int}{v:Int}(h:0 < dW ts v):dW ts v = ts[v.toNat]!:=by
 unfold dW at h ⊢
 split at h
 ·rename_i c;rw [if_pos c]
 ·omega
end Go.AL
namespace Go.AL
open Go.RowKit
section
variable {P : Program} {C : Ctx} {ι : Pl} {T : Nat → Option AV} {F : Nat → Prop} {H : Nat → Option (List AV)} {a : Act} {w : World} {o : Oper}
theorem uA {bad:Nat → Prop}{zs:List Value}(h:zs.all (·.oneCell') = true):∀ n,RdL w bad ι (List.replicate n (zs.map AV.v)).flatten (List.replicate n zs).flatten
 | 0 => by simp [RdL]
 | n + 1 => by
  rw [List.replicate_succ,List.replicate_succ,List.flatten_cons,List.flatten_cons]
  exact RdL.append (oP h) (uA h n)
theorem Ci (gh:HG C ι F H w){t el:TypeId}{x:Operand}{id off n e:Nat}{cs:List AV}{zs:List Value}
  (ho : o.op = .call ⟨.builtin .clear,#[x],#[t]⟩) (hx : Rd w (aH C.X ι H) ι (.own id off n e) (a.eval x)) (hd : o.dst = none)
  (ht : kG P t = some el) (he : e9 P el = some e) (hz : lL P el = some zs) (hze : zs.length = e)
  (hH : H id = some cs) (h0 : 0 < n) (hl : off + n * e ≤ cs.length) :
  Ef P C ι F H a w o (.tup []) (dB H id (some (eR cs off (List.replicate n (zs.map AV.v)).flatten))) := by
 obtain ⟨i,z,h1,h2,h3,h4⟩ := mC hz
 have hu := iO ht
 have hsz := sS he h1
 simp only [Rd] at hx
 rcases hx with ⟨_,rfl,_⟩ | ⟨b,β,c,p1,p2,p3,p4⟩
 ·omega
 have hlen : ((List.replicate n (zs.map AV.v)).flatten).length = n * e := by
  rw [List.length_flatten]; simp [hze]
 obtain ⟨w',q1,q2,q3⟩ := u9 (P := P) gh hH p1 (off := off) (new := (List.replicate n (zs.map AV.v)).flatten) (by rw [hlen]; exact hl) (uA h4 n)
 have hr : (Builtin.clear_ #[t] o.type #[a.eval x]).run P w = .ok (.tuple #[]) w' := by
  rw [p2]
  cases n with
  | zero => omega
  | succ n =>
   have hzc : (Builtin.zeroCells z.cells (n + 1)).toList = (List.replicate (n + 1) zs).flatten := by rw [o7,h3]
   simp [Builtin.clear_,b0 hu,zeroValue,typeInfo,h1,h2,hzc,q1]
 refine ⟨.value (.tuple #[]),.tuple #[],ι,w',?_,.inl ⟨rfl,?_⟩,q2,q3⟩
 ·simp [execOp,ho,resolve,invoke,builtin,hr]
 ·simp only [Rd]; exact ⟨[],rfl,by simp [RdV]⟩
end
section
variable {P : Program} {N : Nat} {Q : Exit → AS → Prop} {all : Array Oper} {rest : List Oper} {ts : List (Nat × AV)} {hs : List (Nat × Option (List AV))} {n : Nat} {z0 : Lo} {md : Md}
variable {d : Nat} {ty : TypeId} {pos : String} {af : Array Edge}
theorem Ck {t el id off m e:Nat}{x:Operand}{cs cs':List AV}{zs:List Value}[ht:SlT P t el] [he:SzT P el e] [hz:ZrT P el zs]
  (hx : ev (lk ts) x = some (.own id off m e)) (hze : zs.length = e) (h0 : 0 < m) (hH : aO hs id = some cs) (hl : off + m * e ≤ cs.length)
  (hcs : eR cs off (List.replicate m (zs.map AV.v)).flatten = cs') {md' : Md} [hmd : MdA md (rO x ++ [.inr id]) [.inr id] md'] (kk : RW P N all Q md' rest ⟨ts,(id,some cs') :: hs,n,z0⟩) :
  RW P N all Q md (⟨none,.call ⟨.builtin .clear,#[x],#[t]⟩,ty,pos,af,none⟩ :: rest) ⟨ts,hs,n,z0⟩ := by
 subst hcs
 exact Ao (rs := rO x ++ [.inr id]) (ws := [(id, some (eR cs off (List.replicate m (zs.map AV.v)).flatten))]) (n' := n) (out := .tup []) rfl (fun _ h => by cases h) (Nat.le_refl n) (.inl rfl)
  (fun C ι F T H a w ag hF g gh => zF (Ci gh rfl (bV g (ag.l.ev.trans hx)) rfl ht.pf he.pf hz.pf hze ((ag.r.h id (by simp)).trans hH) h0 hl)) (by
   show RW P N all Q (md.add (rO x ++ [.inr id]) [.inr id]) rest ⟨ts,(id,some (eR cs off (List.replicate m (zs.map AV.v)).flatten)) :: hs,n,z0⟩
   rw [hmd.pf]; exact kk)
end
end Go.AL
namespace Go.AL
section
variable {P : Program} {N : Nat} {Q : Exit → AS → Prop} {all : Array Oper} {rest : List Oper} {ts : List (Nat × AV)} {hs : List (Nat × Option (List AV))} {n : Nat} {z0 : Lo} {md : Md}
variable {d : Nat} {ty : TypeId} {pos : String} {af : Array Edge}
theorem rK (w:World) (t el:TypeId) (hu:P.underlying t = some (.slice el)) (a:Option Addr) (m c:Nat):(binOp .eql t (.slice a m c) (.slice none 0 0)).run P w = .ok (.bool a.isNone) w:=by
 have h0 : ∀ d : Nat, (Op.equalIn (d + 1) t (.slice a m c) (.slice none 0 0)).run P w = .ok a.isNone w := fun d => by
  cases a <;> simp [Op.equalIn,b0 hu]
 have h := h0 9999
 simp only [binOp]
 simp [Op.equal,Op.maxDepth,h]
theorem tV {t t' el:TypeId}{x:Operand}{m:Nat}{cs:List AV}[ht:SlT P t el] (hx:ev (lk ts) x = some (.imm m cs)) (hN:Nat.blt d N = true)
  (kk : ∀ b : Bool,(b = true → m = 0) → RW P N all Q .txt rest ⟨(d,.v (.bool b)) :: ts,hs,n,z0⟩) : RW P N all Q .txt (⟨some d,.binOp .eql t x (.const (.slice none 0 0)) t',ty,pos,af,none⟩ :: rest) ⟨ts,hs,n,z0⟩ := by
 rintro C a w hCN ⟨h0,ι,g,gh⟩
 refine wpList_plain rfl (fun K hK => ?_)
 have h1 := bV g hx
 simp only [Rd] at h1
 obtain ⟨a',c,h2,h3⟩ := h1
 have hu := iO ht.pf
 have hb : a'.isNone = true → m = 0 := fun hn => by
  rcases h3 with h3 | ⟨b,o,_,rfl,_⟩
  ·exact h3
  ·cases hn
 have hg : (eqGuard .eql t x (.const (.slice none 0 0)) (.slice a' m c) (.slice none 0 0)).run P w = .ok () w := by simp [eqGuard]
 have hr : (execOp a.eval ⟨some d, .binOp .eql t x (.const (.slice none 0 0)) t', ty, pos, af, none⟩).run P w = .ok (.value (.bool a'.isNone)) w := by
  have e2 : a.eval (.const (.slice none 0 0)) = .slice none 0 0 := rfl
  simp only [execOp,h2,e2,Sem.run_bind,hg,Result.andThen_ok,rK w t el hu,Sem.run_pure]
 simp only [Oper.wp,hr,Oper.upon]
 refine hK _ _ (kk a'.isNone hb C _ _ hCN ⟨h0,ι,?_,gh⟩)
 show TG C ι (lk ((d,AV.v (.bool a'.isNone)) :: ts)) _ _ _
 rw [fI]
 exact g.put (by have := dX hN;omega) (by simp [Rd])
end
theorem yX {α:Type}{f:α → List AV}{e:Nat}[h:FlT f e] {hs:List (Nat × Option (List AV))}{xs:List α}{i k n:Nat}(hH:aO hs i = some (aA f xs)) (hn:n = xs.length - k):sCells (aO hs) e (sI (.own i (0 + k * e) n e)) = some (n,aA f (xs.drop k)):=by
 show ((aO hs i).bind fun cs => if n * e ≤ (cs.drop (0 + k * e)).length then some (n,(cs.drop (0 + k * e)).take (n * e)) else none) = _
 rw [hH,Option.bind_some,Nat.zero_add]
 have h1 : (aA f xs).length = xs.length * e := aI f xs
 have h3 : (aA f xs).drop (k * e) = aA f (xs.drop k) := by
  have h4 : aA f xs = aA f (xs.take k) ++ aA f (xs.drop k) := by rw [b6,List.take_append_drop]
  have h5 : (aA f (xs.take k)).length = (xs.take k).length * e := aI f _
  by_cases hk : k ≤ xs.length
  ·rw [h4,← show (aA f (xs.take k)).length = k * e from by rw [h5,List.length_take]; congr 1;omega,List.drop_left]
  ·rw [List.drop_of_length_le (by rw [h1]; exact Nat.mul_le_mul_right _ (by omega)),List.drop_of_length_le (by omega)]; rfl
 rw [h3]
 have h2 : (aA f (xs.drop k)).length = (xs.length - k) * e := by rw [aI f (e := e),List.length_drop]
 rw [h2,hn,if_pos (Nat.le_refl _),List.take_of_length_le (by rw [h2]; exact Nat.le_refl _)]
theorem mK {T:Nat → Option AV}{x:Operand}{dd:Nat}{k:IntKind}{m:Int}{h:Nat}(hx:ev T x = some (.v (.int k m))) (e:m = (h:Int)):iS T (some x) dd = some h:=by
 simp only [iS,hx]; rw [if_pos (by omega)]; congr 1;omega
structure Tg where
 id : Int
 uq : Bool
 deriving Inhabited,DecidableEq
structure Cl where
 val : Int
 alive : Bool
 next : Int
 stk : List Tg
 deriving Inhabited,DecidableEq
structure Pt where
 cell : Int
 tag : Int
 deriving Inhabited,DecidableEq
structure Sl where
 set : Bool
 num : Int
 ptr : Pt
 deriving Inhabited,DecidableEq
def bT (t : Tg) : List AV := [iv t.id,bv t.uq]
def a8 (c : Cl) : List AV := [iv c.val,bv c.alive,iv c.next,sl bT c.stk]
def cG (s : Sl) : List AV := [bv s.set,iv s.num,iv s.ptr.cell,iv s.ptr.tag]
instance : FlT bT 2:=⟨fun _ => rfl⟩
instance : FlT a8 4:=⟨fun _ => rfl⟩
instance : FlT cG 4:=⟨fun _ => rfl⟩
instance : FE bT (fun t => [iv t.id,bv t.uq]):=⟨fun _ => rfl⟩
instance : FE a8 (fun c => [iv c.val,bv c.alive,iv c.next,sl bT c.stk]):=⟨fun _ => rfl⟩
instance : FE cG (fun s => [bv s.set,iv s.num,iv s.ptr.cell,iv s.ptr.tag]):=⟨fun _ => rfl⟩
instance (t : Tg) : Pur (bT t):=⟨rfl⟩
instance (c : Cl) : Pur (a8 c):=⟨by show (true && (true && (true && ((sl bT c.stk).pur && true)))) = true;rw [cR]; rfl⟩
instance (s : Sl) : Pur (cG s):=⟨rfl⟩
abbrev Jr (t : Tg) : AV := .agg [iv t.id,bv t.uq]
abbrev Jt (c : Cl) : AV := .agg [iv c.val,bv c.alive,iv c.next,sl bT c.stk]
abbrev jR (p : Pt) : AV := .agg [iv p.cell,iv p.tag]
abbrev Dy (s : Sl) : AV := .agg [bv s.set,iv s.num,iv s.ptr.cell,iv s.ptr.tag]
structure OkC (c : Cl) : Prop where
 v : 0 ≤ c.val ∧ c.val ≤ 9
 n : 1 ≤ c.next ∧ c.next ≤ 1000
 l : 1 ≤ c.stk.length ∧ c.stk.length ≤ 200
 u : c.stk[0]!.uq = true
 i : ∀ t ∈ c.stk,0 ≤ t.id ∧ t.id < c.next
 d : (c.stk.map (·.id)).Nodup
structure OkM (m : List Cl) : Prop where
 l : m.length ≤ 200
 c : ∀ c ∈ m,OkC c
def bH (stk : List Tg) (id : Int) : Int := match stk.findIdx? (fun t => decide (t.id = id)) with | some k => k | none => -1
theorem cZ (stk:List Tg) (id:Int):-1 ≤ bH stk id ∧ bH stk id < stk.length:=by
 unfold bH
 split
 ·rename_i k h
  obtain ⟨h1,_⟩ := List.findIdx?_eq_some_iff_getElem.1 h
  omega
 ·omega
theorem zJ {stk:List Tg}{id:Int}(h:0 ≤ bH stk id):stk[(bH stk id).toNat]!.id = id:=by
 unfold bH at h ⊢
 split
 ·rename_i k hk
  obtain ⟨h1,h2,_⟩ := List.findIdx?_eq_some_iff_getElem.1 hk
  rw [Int.toNat_natCast,aW _ _ h1]
  simpa using h2
 ·rename_i hk;rw [hk] at h;dsimp only at h;omega
theorem j5 {stk:List Tg}{id:Int}:bH stk id < 0 ↔ ∀ t ∈ stk,t.id ≠ id:=by
 unfold bH
 split
 ·rename_i k hk
  obtain ⟨h1,h2,_⟩ := List.findIdx?_eq_some_iff_getElem.1 hk
  refine ⟨fun h => by omega,fun h => ?_⟩
  exact absurd (by simpa using h2) (h _ (List.getElem_mem h1))
 ·rename_i hk
  rw [List.findIdx?_eq_none_iff] at hk
  exact ⟨fun _ t ht => by simpa using hk t ht,fun _ => by omega⟩
def dJ (stk : List Tg) (k : Nat) (wr : Bool) : List Tg := if wr = true then stk.take (k + 1) else stk.take (k + 1) ++ (stk.drop (k + 1)).filter (fun t => !t.uq)
def aS (m : List Cl) (x : Pt) (wr : Bool) : Int :=
 if ¬ (0 ≤ x.cell ∧ x.cell < m.length) then 4
 else if m[x.cell.toNat]!.alive = false then 1
 else if bH m[x.cell.toNat]!.stk x.tag < 0 then 2
 else if wr = true ∧ m[x.cell.toNat]!.stk[(bH m[x.cell.toNat]!.stk x.tag).toNat]!.uq = false then 3
 else 0
def fM (c : Cl) (x : Pt) (wr : Bool) : Cl := { c with stk := dJ c.stk (bH c.stk x.tag).toNat wr }
def bX (m : List Cl) (x : Pt) (wr : Bool) : List Cl := if aS m x wr = 0 then m.set x.cell.toNat (fM m[x.cell.toNat]! x wr) else m
def kJ (m : List Cl) (x : Pt) : Int := if aS m x false = 0 then m[x.cell.toNat]!.val else 0
def lO (m : List Cl) (x : Pt) (v : Int) : Int := if 0 ≤ v ∧ v ≤ 9 then aS m x true else 4
def k3 (m : List Cl) (x : Pt) (v : Int) : List Cl := if lO m x v = 0 then m.set x.cell.toNat { fM m[x.cell.toNat]! x true with val := v } else m
def eU (m : List Cl) (x : Pt) : List Cl := if aS m x true = 0 then m.set x.cell.toNat { fM m[x.cell.toNat]! x true with alive := false } else m
def xD (c : Cl) : Prop := c.stk.length = 200 ∨ c.next = 1000
instance (c : Cl) : Decidable (xD c) := by unfold xD;infer_instance
def gX (m : List Cl) (x : Pt) (u : Bool) : Int := if aS m x u = 0 then (if xD (fM m[x.cell.toNat]! x u) then 4 else 0) else aS m x u
def psh (c : Cl) (u : Bool) : Cl := { c with stk := c.stk ++ [⟨c.next,u⟩],next := c.next + 1 }
def fY (m : List Cl) (x : Pt) (u : Bool) : List Cl := if gX m x u = 0 then m.set x.cell.toNat (psh (fM m[x.cell.toNat]! x u) u) else m
def lQ (m : List Cl) (x : Pt) (u : Bool) : Pt := if gX m x u = 0 then ⟨x.cell,m[x.cell.toNat]!.next⟩ else ⟨0,0⟩
def kX (v : Int) : Cl := ⟨v,true,1,[⟨0,true⟩]⟩
theorem tchS_sub {stk:List Tg}{k:Nat}{wr:Bool}:(dJ stk k wr).Sublist stk:=by
 unfold dJ
 split
 ·exact List.take_sublist _ _
 ·have h := List.Sublist.append (List.Sublist.refl (stk.take (k + 1))) (List.filter_sublist (l := stk.drop (k + 1)) (p := fun t => !t.uq))
  rwa [List.take_append_drop] at h
theorem qO {stk:List Tg}{k:Nat}{wr:Bool}(h:0 < stk.length):(dJ stk k wr)[0]! = stk[0]! ∧ 0 < (dJ stk k wr).length:=by
 cases stk with
 | nil => simp at h
 | cons a l =>
  unfold dJ
  split <;> simp
theorem OkC.tch {c:Cl}(h:OkC c) (x:Pt) (wr:Bool):OkC (fM c x wr):=by
 have hs := tchS_sub (stk := c.stk) (k := (bH c.stk x.tag).toNat) (wr := wr)
 have hh := qO (k := (bH c.stk x.tag).toNat) (wr := wr) (stk := c.stk) (by have := h.l;omega)
 refine ⟨h.v,h.n,⟨hh.2,Nat.le_trans hs.length_le h.l.2⟩,?_,fun t ht => h.i t (hs.subset ht),(hs.map _).nodup h.d⟩
 show (dJ c.stk (bH c.stk x.tag).toNat wr)[0]!.uq = true
 rw [hh.1]; exact h.u
theorem OkC.psh {c:Cl}(h:OkC c) (u:Bool) (hf:¬ xD c):OkC (psh c u):=by
 have hl := h.l
 have hn := h.n
 unfold xD at hf
 refine ⟨h.v,by show 1 ≤ c.next + 1 ∧ c.next + 1 ≤ 1000;omega,by show 1 ≤ (c.stk ++ [_]).length ∧ (c.stk ++ [_]).length ≤ 200;rw [List.length_append,List.length_singleton]; omega,?_,fun t ht => ?_,?_⟩
 ·show (c.stk ++ [_])[0]!.uq = true
  have h1 := h.u
  rw [aW _ _ (by omega)] at h1
  rw [aW _ _ (by rw [List.length_append]; omega),List.getElem_append_left (by omega)]; exact h1
 ·rcases List.mem_append.1 ht with ht | ht
  ·have := h.i t ht;show 0 ≤ t.id ∧ t.id < c.next + 1;omega
  ·rw [List.mem_singleton] at ht;subst ht;show 0 ≤ c.next ∧ c.next < c.next + 1;omega
 ·show ((c.stk ++ [_]).map _).Nodup
  rw [List.map_append,List.nodup_append]
  refine ⟨h.d,by simp,fun a ha b hb => ?_⟩
  simp only [List.map_cons,List.map_nil,List.mem_singleton] at hb
  obtain ⟨t,ht,rfl⟩ := List.mem_map.1 ha
  have := h.i t ht
  omega
theorem OkC.nw {v:Int}(h:0 ≤ v ∧ v ≤ 9):OkC (kX v) := ⟨h,⟨by show (1:Int) ≤ 1;decide,by show (1:Int) ≤ 1000;decide⟩,⟨by show 1 ≤ 1;decide,by show 1 ≤ 200;decide⟩,rfl,by simp [kX],by simp [kX]⟩
theorem OkM.set {m:List Cl}(h:OkM m){k:Nat}{c:Cl}(hc:OkC c):OkM (m.set k c) :=
 ⟨by rw [List.length_set]; exact h.l,fun x hx => (List.mem_or_eq_of_mem_set hx).elim (h.c x) (fun e => e ▸ hc)⟩
theorem OkM.at {m:List Cl}(h:OkM m){k:Nat}(hk:k < m.length):OkC m[k]! := h.c _ (aY _ _ hk)
theorem cU {m:List Cl}{x:Pt}{wr:Bool}(h:aS m x wr ≠ 4):0 ≤ x.cell ∧ x.cell < m.length ∧ x.cell.toNat < m.length:=by
 unfold aS at h
 split at h
 ·exact absurd rfl h
 ·omega
theorem cP {m:List Cl}{x:Pt}{wr:Bool}(h:aS m x wr = 0):0 ≤ x.cell ∧ x.cell < m.length ∧ x.cell.toNat < m.length := cU (by rw [h]; decide)
theorem OkM.tch {m:List Cl}(h:OkM m) (x:Pt) (wr:Bool):OkM (bX m x wr):=by
 unfold bX;split
 ·rename_i hk;exact h.set ((h.at (cP hk).2.2).tch x wr)
 ·exact h
theorem OkM.wr {m:List Cl}(h:OkM m) (x:Pt) (v:Int):OkM (k3 m x v):=by
 unfold k3
 by_cases hk : lO m x v = 0
 ·rw [if_pos hk]
  unfold lO at hk
  by_cases hv : 0 ≤ v ∧ v ≤ 9
  ·rw [if_pos hv] at hk
   have h1 := (h.at (cP hk).2.2).tch x true
   exact h.set ⟨hv,h1.n,h1.l,h1.u,h1.i,h1.d⟩
  ·rw [if_neg hv] at hk;cases hk
 ·rw [if_neg hk]; exact h
theorem OkM.fr {m:List Cl}(h:OkM m) (x:Pt):OkM (eU m x):=by
 unfold eU;split
 ·rename_i hk
  have h1 := (h.at (cP hk).2.2).tch x true
  exact h.set ⟨h1.v,h1.n,h1.l,h1.u,h1.i,h1.d⟩
 ·exact h
theorem OkM.ln {m:List Cl}(h:OkM m) (x:Pt) (u:Bool):OkM (fY m x u):=by
 unfold fY
 by_cases hk : gX m x u = 0
 ·rw [if_pos hk]
  unfold gX at hk
  by_cases h0 : aS m x u = 0
  ·rw [if_pos h0] at hk
   by_cases hf : xD (fM m[x.cell.toNat]! x u)
   ·rw [if_pos hf] at hk;cases hk
   ·exact h.set (((h.at (cP h0).2.2).tch x u).psh u hf)
  ·rw [if_neg h0] at hk;exact absurd hk h0
 ·rw [if_neg hk]; exact h
theorem OkM.nw {m:List Cl}(h:OkM m){v:Int}(hv:0 ≤ v ∧ v ≤ 9) (hl:m.length < 200):OkM (m ++ [kX v]) :=
 ⟨by rw [List.length_append,List.length_singleton]; omega,fun c hc => (List.mem_append.1 hc).elim (h.c c) (fun h => by rw [List.mem_singleton.1 h]; exact OkC.nw hv)⟩
end Go.AL
