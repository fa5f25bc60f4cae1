/-
 A part of the proofs over this program: rules and contracts of its functions (the rules).
-/
import Derived.Test.YtjnhlgpbojggnaaGreatDoorS3A09
import Derived.Lib.Join
import Derived.Lib.SplitLaws
import Derived.RangeFuncKeeps
import Derived.Shelf.Strings.BuilderK
import Derived.Shelf.Strings.Split
import Derived.Lib.IndexBytes
import Derived.Shelf.Strings.Builder1
import Derived.Shelf.Strings.Builder2
import Derived.Shelf.Strings.OnBuilder
import Derived.Shelf.Small.Strs
import Derived.Shelf.Small.Wraps
import Derived.Shelf.Strings.BuilderF
import Derived.Shelf.Strings.Search1
import Derived.Shelf.Strings.Search2
import Derived.Shelf.Strings.Search3
import Derived.Shelf.Strings.Cut
import Derived.Shelf.Strings.Count
import Derived.Shelf.LaysM
import Derived.Shelf.Strings.Shaped
import Derived.Shelf.Strings.Prefix
import Derived.Shelf.Unicode.DecodeSlow
import Derived.Test.YtjnhlgpbojggnaaGreatDoorProg
import Derived.Lib.MinMax
set_option linter.unusedVariables false
set_option linter.unusedSimpArgs false
namespace Go.AL
def pkB (x : Pnt) : Prop := x.op = 9 ∨ x.op = 10 ∨ x.op = 11 ∨ (1 ≤ x.op ∧ x.op ≤ 8 ∧ 0 ≤ x.x ∧ x.x ≤ 5 ∧ 0 ≤ x.y ∧ x.y ≤ 5 ∧ 0 ≤ x.n ∧ x.n ≤ 9)
theorem simple_n {ts:List Int}{s:Stmt}(h:simpleF ts s = true):(0 ≤ s.n ∧ s.n ≤ 9):=by
 unfold simpleF at h
 dsimp only at h
 repeat' split at h
 all_goals (first|(simp only [decide_eq_true_eq] at h;omega)|(cases h;done)|omega)
mutual
theorem ptS_bd {ts:List Int}(ht:typesOk ts = true):∀ (s:Stmt) (d b:Nat),okS ts d s = true → ∀ x ∈ ptS b s,pkB x
 | .mk op x y n th el, d, b, h => by
  simp only [okS] at h
  split at h
  ·rename_i hop
   simp only [Bool.and_eq_true] at h
   have hs := simple_bd ht h.2
   have hn := simple_n h.2
   simp only [Stmt.op,Stmt.x,Stmt.y,Stmt.n] at hs hn
   simp only [ptS,hop.1,hop.2,if_false,List.mem_singleton]
   rintro z rfl
   exact .inr (.inr (.inr ⟨hs.1,hs.2.1,hs.2.2.1,hs.2.2.2.1,hs.2.2.2.2.1,hs.2.2.2.2.2.1,hn.1,hn.2⟩))
  ·rename_i hop
   cases d with
   | zero => cases h
   | succ d =>
    simp only [Bool.and_eq_true,decide_eq_true_eq] at h
    obtain ⟨⟨⟨_,_⟩,h1⟩,h2⟩ := h
    by_cases h9 : op = 9
    ·subst h9
     simp only [ptS,if_true,List.mem_append,List.mem_singleton]
     rintro z (((rfl|hz)|rfl)|hz)
     ·exact .inl rfl
     ·exact ptL_bd ht th d (b + 1) h1 z hz
     ·exact .inr (.inl rfl)
     ·exact ptL_bd ht el d _ h2 z hz
    ·have h10 : op = 10 := by omega
     subst h10
     simp only [ptS,if_true,show ((10 : Int) = 9) = False by simp,if_false,List.mem_append,List.mem_singleton]
     rintro z ((rfl|hz)|rfl)
     ·exact .inr (.inl rfl)
     ·exact ptL_bd ht th d (b + 1) h1 z hz
     ·exact .inr (.inl rfl)
theorem ptL_bd {ts:List Int}(ht:typesOk ts = true):∀ (l:List Stmt) (d b:Nat),okL ts d l = true → ∀ x ∈ ptL b l,pkB x
 | [],d,b,h => by simp [ptL]
 | s :: l, d, b, h => by
  simp only [okL,Bool.and_eq_true] at h
  simp only [ptL,List.mem_append]
  rintro x (hx|hx)
  ·exact ptS_bd ht s d b h.1 x hx
  ·exact ptL_bd ht l d (b + npS s) h.2 x hx
end
theorem pts_bd {p:Prg}(h:validF p = true){i:Nat}(hi:i < (ptsF p).length):pkB (ptsF p)[i]!:=by
 unfold validF at h
 simp only [Bool.and_eq_true,decide_eq_true_eq] at h
 obtain ⟨⟨ht,hl⟩,hc⟩ := h
 have hm := getB_mem _ i hi
 unfold ptsF at hm
 rw [List.mem_append,List.mem_singleton] at hm
 rcases hm with hm|hm
 ·exact ptL_bd ht p.body 4 0 hl _ hm
 ·unfold ptsF;rw [hm]; exact .inr (.inr (.inl rfl))
def dec2F (n : Int) : ByteArray := if n ≤ 9 then decF n else bytF' [48 + n / 10] ++ (bytF' [48 + n % 10] ++ .empty)
theorem dec2F_size (n:Int):(dec2F n).size ≤ 2:=by
 unfold dec2F;split
 ·rw [decF_size]; omega
 ·simp [bytF',ByteArray.size_append]
def ptT (x : Pnt) : ByteArray := if x.op = 11 then ⟨#[101,110,100]⟩ else if x.op = 9 then ⟨#[105,102]⟩ else if x.op = 10 then (if x.n = 1 then ⟨#[103,111]⟩ else ⟨#[108,111,111,112]⟩) else textS (.mk x.op x.x x.y x.n [] [])
theorem ptT_size (x:Pnt):(ptT x).size ≤ 11:=by
 have := textS_size (.mk x.op x.x x.y x.n [] [])
 simp only [cntS,cntL] at this
 unfold ptT
 repeat' split
 all_goals (first|(simp only [bsz_lit,List.length_cons,List.length_nil]; omega)|omega)
def issT (pts : List Pnt) (x : Iss) : ByteArray :=
 if x.kind = 1 then ((((dec2F x.point ++ ⟨#[32]⟩) ++ ptT pts[x.point.toNat]!) ++ ⟨#[58,32]⟩) ++ ⟨#[110,111,32,118,97,108,117,101,32,111,102,32]⟩) ++ letF x.with_
 else ((((((dec2F x.point ++ ⟨#[32]⟩) ++ ptT pts[x.point.toNat]!) ++ ⟨#[58,32]⟩) ++ ⟨#[108,111,97,110,32,111,102,32]⟩) ++ dec2F x.with_) ++ ⟨#[32]⟩) ++ ptT pts[x.with_.toNat]!
end Go.AL
namespace Go.AL
open Go.RowKit
theorem pc_of_calls {P:Program}{k:FuncId}{args:List AV}{Q:AV → Prop}
  (h : ∀ (w : World) (bad : Nat → Prop) (ι : Pl) (vals : List Value),RdV w bad ι args vals → Calls P k vals.toArray w fun e w' => ∃ v r,e = .returned v ∧ Q r ∧ r.pur = true ∧ (∀ bad ι,(∀ b,bad b → b < w.heap.size) → Rd w' bad ι r v) ∧ Below w.heap.size w w') : PC P k args Q := by
 intro C ι w vals hw hι g hr
 refine (h w _ ι vals hr).mono ?_
 rintro e w' ⟨v,r,rfl,hq,hp,hrd,hb⟩
 have hf : Fr C.W0 C.w0 w' := by
  subst hw
  refine ⟨hb.os,hb.tape,hb.output,hb.size,fun q hq _ => hb.block q hq,fun q => ?_⟩
  by_cases hlt : q < C.w0.heap.size
  ·unfold bsz;rw [hb.block q hlt]; exact Nat.le_refl _
  ·unfold bsz;rw [Array.getElem?_eq_none (by omega)]; exact Nat.zero_le _
 have hbad : ∀ b, badOf C.X ι (lkH []) b → b < w.heap.size := by
  rintro b (q | ⟨id,cs,β,q1,q2⟩)
  ·subst hw;exact C.xlt b q
  ·cases q1
 exact ⟨v,r,lkH [],ι,rfl,⟨hq,hp⟩,hrd _ _ hbad,⟨fun id cs q => (by cases q),fun id id' cs cs' b β β' q => (by cases q),hf,g.ex,fun _ q => q.elim⟩⟩
def i0 (b : Nat) : Pl := fun id => if id = 0 then some (some (b,0)) else none
theorem calls_of_mc1 {σ:Type}{P:Program}{k:FuncId}{args cells:List AV}{p:σ → Prop}{rr:σ → AV}{ho:σ → List AV}(h:MC P k args [(0,some cells)] 1 p rr (fun x => [(0,some (ho x))]))
  (hp1 : ∀ x,p x → (rr x).pur = true) (hp2 : ∀ x,p x → pursB (ho x) = true) (X : Nat → Prop)
  {W : World} {b : Nat} {arr : Array Value} {ty : TypeId} (hX : ∀ q,X q → q < W.heap.size) (hXb : ¬ X b) (hb : W.heap[b]? = some (.cells arr ty (0,0))) (hl : cells.length ≤ arr.size) (hc : RdC W (fun q => X q ∨ q = b) (i0 b) cells b 0)
  {vs : List Value} (hv : RdV W (fun q => X q ∨ q = b) (i0 b) args vs) :
  Calls P k vs.toArray W fun e W' => ∃ x v, p x ∧ e = .returned v ∧ Rd W' (fun q => X q ∨ q = b) (i0 b) (rr x) v ∧ (ho x = [] ∨ ∃ arr' ty', W'.heap[b]? = some (.cells arr' ty' (0, 0)) ∧ (ho x).length ≤ arr'.size ∧ RdC W' (fun q => X q ∨ q = b) (i0 b) (ho x) b 0) ∧
   W'.os = W.os ∧ W'.tape = W.tape ∧ W'.output = W.output ∧ W.heap.size ≤ W'.heap.size ∧ ∀ q,q < W.heap.size → q ≠ b → W'.heap[q]? = W.heap[q]? := by
 let C : Ctx := { N := 0,w0 := W,W0 := fun q => q = b,X := X,ι0 := i0 b,xlt := hX }
 have ebad : badOf C.X (i0 b) (lkH [(0, some cells)]) = fun q => X q ∨ q = b := by
  funext q
  apply propext
  constructor
  ·rintro (h | ⟨id, cs, β, h1, h2⟩)
   ·exact .inl h
   ·unfold i0 at h2
    split at h2
    ·cases h2
     exact .inr rfl
    ·cases h2
  ·rintro (h | rfl)
   ·exact .inl h
   ·exact .inr ⟨0,cells,0,rfl,rfl⟩
 have hblt : b < W.heap.size := lt_of_heap hb
 have g : HG C (i0 b) (fun j => 1 ≤ j) (lkH [(0, some cells)]) W := by
  refine ⟨fun id cs h1 => ?_,fun id id' cs cs' q β β' h1 h2 h3 h4 => ?_,Fr.refl _ _,fun _ _ h => h,fun id h1 => ?_⟩
  ·have e0 : id = 0 := by
    apply Classical.byContradiction;intro hne
    have e : Nat.beq id 0 = false := by
     cases id with
     | zero => exact absurd rfl hne
     | succ n => rfl
    simp [lkH,e] at h1
   subst e0
   have e1 : cs = cells := by simpa [lkH] using h1.symm
   subst e1
   exact .inr ⟨b,0,arr,ty,rfl,hb,by omega,by rw [ebad]; exact hc,hXb,.inl rfl⟩
  ·unfold i0 at h3 h4
   split at h3
   ·split at h4
    ·omega
    ·cases h4
   ·cases h3
  ·unfold i0;rw [if_neg (by omega)]
 refine (h C (i0 b) W vs rfl rfl g (by rw [ebad]; exact hv)).mono ?_
 rintro e W' ⟨v,r,H',ι',rfl,⟨x,hx,rfl,hH⟩,h4,h5⟩
 have hH0 := hH 0 (ho x) rfl
 have hi0 : ι' 0 = some (some (b,0)) := h5.ex 0 _ rfl
 have car : Carry W' (badOf C.X ι' H') ι' W' (fun q => X q ∨ q = b) ι' := ⟨fun q o y h1 h2 => ⟨fun e => h1 (e.elim .inl fun e => e ▸ .inr ⟨0,ho x,0,hH0,hi0⟩),h2⟩,fun _ _ h => h,fun _ => Nat.le_refl _⟩
 refine ⟨x,v,hx,rfl,Rd.pur _ _ (hp1 x hx) (Rd.carry car _ _ h4),?_,h5.fr.os,h5.fr.tape,h5.fr.output,h5.fr.size,fun q hq hne => h5.fr.block q hq hne⟩
 rcases h5.obj 0 (ho x) hH0 with ⟨q1,q2⟩ | ⟨b',β,arr',ty',q1,q2,q3,q4,q5,q6⟩
 ·exact .inl q2
 ·rw [hi0] at q1; cases q1
  exact .inr ⟨arr',ty',q2,by omega,RdC.pur _ _ _ (hp2 x hx) (RdC.carryB car _ _ _ (fun o y hy => hy) q4)⟩
def cS (s : ByteArray) : List AV := [sv s]
instance (s : ByteArray) : Pur (cS s):=⟨rfl⟩
theorem rdC_strs {w:World}{bad:Nat → Prop}{ι:Pl}{b:Nat}:∀ (zs:List ByteArray) (o:Nat),RdC w bad ι (flat cS zs) b o → ∀ j x,zs[j]? = some x → w.cell? ⟨b,o + j,none⟩ = some (.string x)
 | [],o,_,j,x,h => by simp at h
 | z :: zs, o, h, j, x, hx => by
  have e : flat cS (z :: zs) = sv z :: flat cS zs := rfl
  rw [e] at h
  simp only [RdC] at h
  obtain ⟨⟨y,h1,_,h3⟩,h4⟩ := h
  cases j with
  | zero =>
   simp only [Rd] at h3
   have : z = x := by simpa using hx
   subst this
   rw [Nat.add_zero,h1,h3]
  | succ j =>
   have := rdC_strs zs (o + 1) h4 j x (by simpa using hx)
   rw [show o + (j + 1) = o + 1 + j by omega]; exact this
theorem pc_join {P:Program}{k:FuncId}
  (h0 : ∀ (a : Option Addr) (c : Nat) (sep : ByteArray) (w : World),Calls P k #[.slice a 0 c,.string sep] w fun e w' => e = .returned (.string ⟨#[]⟩) ∧ w' = w)
  (h1 : ∀ (bk o c : Nat) (xs : List ByteArray) (sep : ByteArray) (w : World), (∀ (j : Nat) x, xs[j]? = some x → w.cell? ⟨bk, o + j, none⟩ = some (.string x)) → bk < w.heap.size → xs.length ≤ 140737488355328 → xs.length ≤ c → (Lib.join (xs.map (·.data.toList)) sep.data.toList).length ≤ 140737488355328 →
   Calls P k #[.slice (some ⟨bk,o,none⟩) xs.length c,.string sep] w fun e w' => e = .returned (.string ⟨(Lib.join (xs.map (·.data.toList)) sep.data.toList).toArray⟩) ∧ Below w.heap.size w w')
  (L : List ByteArray) (sep : ByteArray) (hl : L.length ≤ 140737488355328) (hj : (Lib.join (L.map (·.data.toList)) sep.data.toList).length ≤ 140737488355328) :
  PC P k [sl cS L,sv sep] (fun r => r = sv ⟨(Lib.join (L.map (·.data.toList)) sep.data.toList).toArray⟩) := by
 refine pc_of_calls fun w bad ι vals hv => ?_
 simp only [RdV] at hv
 obtain ⟨y,l,rfl,hy,y2,l2,rfl,hy2,rfl⟩ := hv
 change Rd w bad ι (.imm L.length (flat cS L)) y at hy
 simp only [Rd] at hy hy2
 subst hy2
 obtain ⟨a,c,rfl,hq⟩ := hy
 by_cases hn : L.length = 0
 ·have e : L = [] := List.eq_nil_of_length_eq_zero hn
  subst e
  refine (h0 a c sep w).mono ?_
  rintro e w' ⟨rfl,rfl⟩
  exact ⟨_,sv ⟨#[]⟩,rfl,rfl,rfl,fun _ _ _ => by simp only [Rd],Below.refl _ _⟩
 ·rcases hq with hq | ⟨b, o, hc, rfl, hq⟩
  ·exact absurd hq hn
  ·have hq' : RdC w bad ι (flat cS L) b o := by
    rcases hq with hq | ⟨_,hq⟩
    ·exfalso
     cases L with
     | nil => exact hn rfl
     | cons z zs => cases hq
    ·exact hq
   have hcells := rdC_strs L o hq'
   have hb : b < w.heap.size := by
    cases L with
    | nil => exact absurd rfl hn
    | cons z zs => exact World.block_lt_of_cell? _ _ (hcells 0 z rfl)
   refine (h1 b o c L sep w hcells hb hl hc hj).mono ?_
   rintro e w' ⟨rfl,hB⟩
   exact ⟨_,sv _,rfl,rfl,rfl,fun _ _ _ => by simp only [Rd],hB⟩
end Go.AL
namespace Go.AL
open Go.RowKit
variable {w w' : World} {bad bad' : Nat → Prop} {ι ι' : Pl}
mutual
theorem Rd.carryP (k:∀ b o x,¬ bad b → w.cell? ⟨b,o,none⟩ = some x → ¬ bad' b ∧ w'.cell? ⟨b,o,none⟩ = some x):∀ (av:AV) (y:Value),av.pur = true → Rd w bad ι av y → Rd w' bad' ι' av y
 | .v x,y,_,h => by simpa only [Rd] using h
 | .any,y,_,h => by simpa only [Rd] using h
 | .imm n cs, y, hp, h => by
  simp only [AV.pur] at hp
  simp only [Rd] at h ⊢
  obtain ⟨a,c,rfl,h⟩ := h
  refine ⟨a,c,rfl,?_⟩
  rcases h with h | ⟨b,o,hn,rfl,h⟩
  ·exact .inl h
  ·refine .inr ⟨b, o, hn, rfl, ?_⟩
   rcases h with h | ⟨hb,h⟩
   ·exact .inl h
   ·cases cs with
    | nil => exact .inl rfl
    | cons c1 cs =>
     refine .inr ⟨?_,RdC.carryP k _ _ _ hp (fun o x hx => (k b o x hb hx).2) h⟩
     simp only [RdC] at h
     obtain ⟨⟨x,hx,_⟩,_⟩ := h
     exact (k b o x hb hx).1
 | .iptr cs, y, hp, h => by
  simp only [AV.pur] at hp
  simp only [Rd] at h ⊢
  obtain ⟨b,o,rfl,h⟩ := h
  refine ⟨b,o,rfl,?_⟩
  rcases h with h | ⟨hb,h⟩
  ·exact .inl h
  ·cases cs with
   | nil => exact .inl rfl
   | cons c1 cs =>
    refine .inr ⟨?_,RdC.carryP k _ _ _ hp (fun o x hx => (k b o x hb hx).2) h⟩
    simp only [RdC] at h
    obtain ⟨⟨x,hx,_⟩,_⟩ := h
    exact (k b o x hb hx).1
 | .own id off n e,y,hp,h => by simp [AV.pur] at hp
 | .optr id off,y,hp,h => by simp [AV.pur] at hp
 | .agg cs, y, hp, h => by
  simp only [AV.pur] at hp
  simp only [Rd] at h ⊢
  obtain ⟨l,h1,h2⟩ := h
  exact ⟨l,h1,RdL.carryP k _ _ hp h2⟩
 | .tup cs, y, hp, h => by
  simp only [AV.pur] at hp
  simp only [Rd] at h ⊢
  obtain ⟨l,h1,h2⟩ := h
  exact ⟨l,h1,RdV.carryP k _ _ hp h2⟩
 | .clos fn f c, y, hp, h => by
  simp only [AV.pur,Bool.and_eq_true] at hp
  simp only [Rd] at h ⊢
  obtain ⟨l,l2,h1,h2,h3⟩ := h
  exact ⟨l,l2,h1,RdV.carryP k _ _ hp.1 h2,RdV.carryP k _ _ hp.2 h3⟩
 | .ownc id off n c e,y,hp,h => by simp [AV.pur] at hp
theorem RdC.carryP (k:∀ b o x,¬ bad b → w.cell? ⟨b,o,none⟩ = some x → ¬ bad' b ∧ w'.cell? ⟨b,o,none⟩ = some x):∀ (cs:List AV) (b o:Nat),pursB cs = true → (∀ o x,w.cell? ⟨b,o,none⟩ = some x → w'.cell? ⟨b,o,none⟩ = some x) → RdC w bad ι cs b o → RdC w' bad' ι' cs b o
 | [],b,o,_,_,h => by simp only [RdC]
 | c :: cs, b, o, hp, hb, h => by
  simp only [pursB,Bool.and_eq_true] at hp
  simp only [RdC] at h ⊢
  obtain ⟨⟨x,hx,h1,h2⟩,h3⟩ := h
  exact ⟨⟨x,hb o x hx,h1,Rd.carryP k _ _ hp.1 h2⟩,RdC.carryP k _ _ _ hp.2 hb h3⟩
theorem RdL.carryP (k:∀ b o x,¬ bad b → w.cell? ⟨b,o,none⟩ = some x → ¬ bad' b ∧ w'.cell? ⟨b,o,none⟩ = some x):∀ (cs:List AV) (l:List Value),pursB cs = true → RdL w bad ι cs l → RdL w' bad' ι' cs l
 | [],l,_,h => by simpa only [RdL] using h
 | c :: cs, l, hp, h => by
  simp only [pursB,Bool.and_eq_true] at hp
  simp only [RdL] at h ⊢
  obtain ⟨x,l',h0,h1,h2,h3⟩ := h
  exact ⟨x,l',h0,h1,Rd.carryP k _ _ hp.1 h2,RdL.carryP k _ _ hp.2 h3⟩
theorem RdV.carryP (k:∀ b o x,¬ bad b → w.cell? ⟨b,o,none⟩ = some x → ¬ bad' b ∧ w'.cell? ⟨b,o,none⟩ = some x):∀ (cs:List AV) (l:List Value),pursB cs = true → RdV w bad ι cs l → RdV w' bad' ι' cs l
 | [],l,_,h => by simpa only [RdV] using h
 | c :: cs, l, hp, h => by
  simp only [pursB,Bool.and_eq_true] at hp
  simp only [RdV] at h ⊢
  obtain ⟨x,l',h0,h2,h3⟩ := h
  exact ⟨x,l',h0,Rd.carryP k _ _ hp.1 h2,RdV.carryP k _ _ hp.2 h3⟩
end
end Go.AL
namespace Go.Proofs
open Go.Shelf Go.RowKit Go.Lib
variable {P : Program} {ρ : Ren}
structure Kp (X : Nat → Prop) (w w' : World) : Prop where
 os : w'.os = w.os
 tape : w'.tape = w.tape
 output : w'.output = w.output
 size : w.heap.size ≤ w'.heap.size
 block : ∀ q,q < w.heap.size → ¬ X q → w'.heap[q]? = w.heap[q]?
theorem Kp.refl (X:Nat → Prop) (w:World):Kp X w w := ⟨rfl,rfl,rfl,Nat.le_refl _,fun _ _ _ => rfl⟩
theorem Kp.mono {X Y:Nat → Prop}{a b:World}(h:Kp X a b) (hXY:∀ q,q < a.heap.size → X q → Y q):Kp Y a b := ⟨h.os,h.tape,h.output,h.size,fun q hq hn => h.block q hq fun hx => hn (hXY q hq hx)⟩
theorem Kp.trans {X:Nat → Prop}{a b c:World}(h:Kp X a b) (k:Kp X b c):Kp X a c :=
 ⟨k.os.trans h.os,k.tape.trans h.tape,k.output.trans h.output,Nat.le_trans h.size k.size,fun q hq hn => (k.block q (Nat.lt_of_lt_of_le hq h.size) hn).trans (h.block q hq hn)⟩
theorem Kp.setCell {X:Nat → Prop}{a w:World}(h:Kp X a w){p:Addr}(hp:X p.block) (u:Value):Kp X a (w.setCell p u) :=
 h.trans ⟨rfl,rfl,rfl,by simp [World.setCell],fun k hk hn => Below.heap_setCell _ _ _ _ (fun e => hn (e ▸ hp))⟩
theorem Kp.grown {X:Nat → Prop}{a w w':World}{row:Option Nat}(h:Kp X a w) (hg:w.grownBy w' row) (hr:∀ k,row = some k → X k ∨ a.heap.size ≤ k):Kp X a w' :=
 ⟨hg.os.trans h.os,hg.tape.trans h.tape,hg.output.trans h.output,Nat.le_trans h.size hg.size,fun q hq hn => (hg.block q (Nat.lt_of_lt_of_le hq h.size) (fun e => (hr q e.symm).elim hn fun h2 => by omega)).trans (h.block q hq hn)⟩
theorem copyCheck_p (L:Lays.n240 P ρ) (X:Builder.X72 P ρ) (B b:Nat) (bs:List Value) (w:World) (h:Lib.IsBuilderF (ρ.t 72) (ρ.t 5) B b bs w) :
  Calls P (ρ.f 240) #[.pointer (some ⟨b,0,none⟩)] w fun e w' => e = .returned (.tuple #[]) ∧ Lib.BuilderAtF (ρ.t 72) (ρ.t 5) B b (.pointer (some ⟨b,0,none⟩)) bs w' ∧ w'.cell? ⟨b,1,none⟩ = w.cell? ⟨b,1,none⟩ ∧ Kp (fun q => q = b) w w' := by
 rcases h with h|h
 ·refine (Any.Builder_copyCheck_fresh L X b w h.cell0 h.shape h.frozen0).mono ?_
  rintro e w' ⟨rfl,rfl⟩
  exact ⟨rfl,h.used _,World.cell?_setCell_other _ _ _ _ (by simp),Kp.setCell (X := fun q => q = b) (Kp.refl _ w) (p := ⟨b,0,none⟩) rfl _⟩
 ·refine (Any.Builder_copyCheck_used L X b w h.cell0).mono ?_
  rintro e w' ⟨rfl,rfl⟩
  exact ⟨rfl,h,rfl,Kp.refl _ _⟩
theorem run_append_x (w:World) (base:Nat) (t u ty e:TypeId) (i:TypeInfo) (ht:P.underlying t = some (.slice e)) (hu:P.underlying u = some .string) (hi:P.info? e = some i) (hz:i.zero = some (.int .u8 0))
  (hsize : i.size = 1) (hby : i.bytes = 1)
  (v : Value) (n : Nat) (xs : List Value) (hown : w.ownsRowF base e 1 v n xs) (s : ByteArray)
  (h63 : n + s.size ≤ maxLen) (hbytes : n + s.size ≤ 140737488355328) (hbase : base ≤ w.heap.size) :
  ∃ v' w', (Builtin.append_ #[t, u] ty #[v, .string s]).run P w = .ok v' w' ∧ w'.ownsRowF base e 1 v' (n + s.size) (xs ++ Lib.strCells s) ∧ w.grownBy w' v.ownBlock ∧
   (∀ g,v'.ownBlock = some g → v.ownBlock = some g ∨ w.heap.size ≤ g) := by
 obtain ⟨v',w',h1,h2,h3,_⟩ := Lib.run_append_own_stringF (P := P) w base t u ty e i ht hu hi hz hsize hby v n xs hown s h63 hbytes hbase
 refine ⟨v',w',h1,h2,h3,?_⟩
 rcases hown.2 with ⟨rfl,rfl⟩ | ⟨g,cap,cur,fz,rfl,hbg,hg,hfz,hnc,hcm,hcs,htake⟩
 ·obtain ⟨v2, w2, q1, q2, _, _⟩ := Lib.run_append_own_stringF (P := P) w w.heap.size t u ty e i ht hu hi hz hsize hby (.slice none 0 0) 0 xs ⟨hown.1, .inl ⟨rfl, rfl⟩⟩ s h63 hbytes (Nat.le_refl _)
  rw [h1] at q1
  injection q1 with q1 q3
  subst q1
  intro k hk
  exact .inr (q2.lt k hk).1
 ·have hxl : xs.length = n := by simpa using hown.1
  by_cases hroom : n + s.size ≤ cap
  ·have hcs' : cur.size = cap := by simpa using hcs
   have hr := Lib.run_append_room_stringF (P := P) w t u ty e i ht hu hi hsize g n cap cur fz hg (by simpa using hfz) s hroom (by omega)
   rw [h1] at hr
   injection hr with hr _
   subst hr
   intro k hk
   exact .inl hk
  ·have holds : ∀ j u, xs[j]? = some u → w.cell? ((⟨g, 0, none⟩ : Addr).add j) = some u := hown.cells (g := g) rfl
   have hr := Lib.run_append_grow_string (P := P) w t u ty e i (.int .u8 0) ht hu hi hz ⟨g,0,none⟩ n cap xs (by rw [hsize]; simpa using hxl) holds s (by omega) (by simp only [maxLen] at h63;omega) (by rw [hby]; exact growslice_fits (by omega) (by omega))
   rw [h1] at hr
   injection hr with hr _
   subst hr
   intro k hk
   simp [Value.ownBlock] at hk
   omega
theorem wpList_append_x {ops:Array Oper}{rest:List Oper}{o:Oper}{a:Act}{w:World}{Q:Exit → Act → World → Prop}(hgd:o.guard = none) (sl x:Operand) (t u:TypeId)
  (ho : o.op = .call { callee := .builtin .append,args := #[sl,x],argTypes := #[t,u] })
  (base : Nat) (e : TypeId) (i : TypeInfo) (ht : P.underlying t = some (.slice e)) (hu : P.underlying u = some .string) (hi : P.info? e = some i) (hz : i.zero = some (.int .u8 0))
  (hsize : i.size = 1) (hby : i.bytes = 1)
  (v : Value) (n : Nat) (xs : List Value) (hs : a.eval sl = v) (hown : w.ownsRowF base e 1 v n xs) (s : ByteArray) (hx : a.eval x = .string s)
  (h63 : n + s.size ≤ maxLen) (hbytes : n + s.size ≤ 140737488355328) (hbase : base ≤ w.heap.size)
  (h : ∀ v' w',w'.ownsRowF base e 1 v' (n + s.size) (xs ++ Lib.strCells s) → w.grownBy w' v.ownBlock → (∀ g,v'.ownBlock = some g → v.ownBlock = some g ∨ w.heap.size ≤ g) → wpList P ops Q rest (a.put o.dst v') w') : wpList P ops Q (o :: rest) a w := by
 refine wpList_plain hgd fun K hK => ?_
 obtain ⟨v',w',hr,h2,h3,h4⟩ := run_append_x (P := P) w base t u o.type e i ht hu hi hz hsize hby v n xs hown s h63 hbytes hbase
 unfold Oper.wp execOp
 simp only [ho,resolve,invoke,builtin,Sem.run_bind,Sem.run_pure,Result.andThen_ok,List.map_toArray,List.map_cons,List.map_nil,hs,hx,hr]
 exact hK _ _ (h v' w' h2 h3 h4)
set_option maxHeartbeats 2000000 in
set_option maxRecDepth 100000 in
theorem WriteString_p (L:Lays.n166 P ρ) (X:Builder.Extra P ρ) (B b:Nat) (bs:List Value) (s:ByteArray) (w:World) (h:Lib.IsBuilderF (ρ.t 72) (ρ.t 5) B b bs w) (hlen:bs.length + s.size ≤ 140737488355328) (hBw:B ≤ w.heap.size) :
  Calls P (ρ.f 166) #[.pointer (some ⟨b, 0, none⟩), .string s] w fun e w' => e = .returned (.tuple #[.int .i64 s.size, .nilIface]) ∧ Lib.BuilderAtF (ρ.t 72) (ρ.t 5) B b (.pointer (some ⟨b, 0, none⟩)) (bs ++ Lib.strCells s) w' ∧
   Kp (fun q => q = b ∨ ∃ v,w.cell? ⟨b,1,none⟩ = some v ∧ v.ownBlock = some q) w w' ∧ (∀ v' g,w'.cell? ⟨b,1,none⟩ = some v' → v'.ownBlock = some g → (∃ v,w.cell? ⟨b,1,none⟩ = some v ∧ v.ownBlock = some g) ∨ w.heap.size ≤ g) := by
 obtain ⟨i0,hi,hz0,hz1,hz2⟩ := info_parts X.infoByte
 have mixed := L.mixed
 have t72 := L.t72;have a72 := L.a72;have z72 := L.z72;have v72 := L.v72;have u72 := run_underlying L.t72
 have t70 := L.t70;have a70 := L.a70;have z70 := L.z70;have v70 := L.v70;have u70 := run_underlying L.t70
 have t37 := L.t37;have a37 := L.a37;have z37 := L.z37;have v37 := L.v37;have u37 := run_underlying L.t37
 have t3 := L.t3;have a3 := L.a3;have z3 := L.z3;have v3 := L.v3;have u3 := run_underlying L.t3
 have t9 := L.t9;have a9 := L.a9;have z9 := L.z9;have v9 := L.v9;have u9 := run_underlying L.t9
 have t4 := L.t4;have a4 := L.a4;have z4 := L.z4;have v4 := L.v4;have u4 := run_underlying L.t4
 have t164 := L.t164;have a164 := L.a164;have z164 := L.z164;have v164 := L.v164;have u164 := run_underlying L.t164
 have t5 := X.t5;have a5 := X.a5;have z5 := X.z5;have v5 := X.v5;have u5 := run_underlying X.t5
 have e240 : ∀ args w,(callFunc (ρ.f 240) args).run P w = .ok (.enter (ρ.f 240) args) w := enters_of L.f240 (by kernel_rfl) rfl
 go_enter L.f166,Body.n166_ntmps ρ
 go_wp2_with (go_at_fn (ρ.f 240);refine (copyCheck_p { L with } X.toX72 B b bs _ h).mono ?_)
 rintro e w1 ⟨rfl,h1,hc,hk1⟩
 obtain ⟨hB,v,hbk,hown,hne⟩ := h1
 have c0 : w1.cell? ⟨b,0,none⟩ = some (.pointer (some ⟨b,0,none⟩)) := by rw [Lib.cell_of_heap hbk]; rfl
 have c1 : w1.cell? ⟨b,1,none⟩ = some v := by rw [Lib.cell_of_heap hbk]; rfl
 have hk2 : Kp (fun q => q = b ∨ ∃ v,w.cell? ⟨b,1,none⟩ = some v ∧ v.ownBlock = some q) w w1 := hk1.mono fun q _ hq => .inl hq
 have hcw : w.cell? ⟨b,1,none⟩ = some v := by rw [← hc]; exact c1
 go_wp2_with (at_builtin;refine wpList_append_x rfl _ _ (ρ.t 37) (ρ.t 9) rfl B (ρ.t 5) i0 L.t37 L.t9 hi hz0 hz1 hz2 _ _ _ rfl hown s rfl ?c3 ?c4 ?c5 ?_)
 case c3 => unfold maxLen;omega
 case c4 => omega
 case c5 => have := hk1.size;omega
 intro v' w2 hown' hgrow hnew
 have hlt : b < w1.heap.size := by
  rcases Nat.lt_or_ge b w1.heap.size with h'|h'
  ·exact h'
  ·simp [Array.getElem?_eq_none h'] at hbk
 have hb2 : w2.heap[b]? = some (.cells #[.pointer (some ⟨b, 0, none⟩), v] (ρ.t 72) (0, 0)) := by
  rw [hgrow.block b hlt (fun e => hne e.symm)]
  exact hbk
 have d0 : w2.cell? ⟨b,0,none⟩ = some (.pointer (some ⟨b,0,none⟩)) := by rw [Lib.cell_of_heap hb2]; rfl
 have d1 : w2.cell? ⟨b,1,none⟩ = some v := by rw [Lib.cell_of_heap hb2]; rfl
 have f1 : w2.frozen? ⟨b,1,none⟩ = false := Lib.frozen_of_heap hb2 1
 obtain ⟨ao, n', cap, rfl⟩ : ∃ ao n' cap, v' = .slice ao n' cap := by
  rcases hown'.2 with ⟨hv,_⟩ | ⟨g,cap,cur,fz,hv,_⟩
  ·exact ⟨_,_,_,hv⟩
  ·exact ⟨_,_,_,hv⟩
 go_wp2
 go_ret2
 refine ⟨rfl,Lib.BuilderAtF.put (T := (ρ.t 72)) (e := (ρ.t 5)) hB hb2 (bs' := bs ++ Lib.strCells s) (by simpa [Lib.strCells_length] using hown') X.neB5,?_⟩
 refine ⟨(hk2.grown hgrow (fun k hk => .inl (.inr ⟨v,hcw,hk⟩))).setCell (p := ⟨b,1,none⟩) (.inl rfl) _,fun v2 g hv2 hg2 => ?_⟩
 have e2 : v2 = .slice ao n' cap := by
  have h9 := World.cell?_setCell_same' w2 ⟨b,1,none⟩ (.slice ao n' cap) (by rw [d1]; rfl)
  rw [h9] at hv2
  injection hv2 with hv2
  exact hv2.symm
 subst e2
 rcases hnew g hg2 with q|q
 ·exact .inl ⟨v,hcw,q⟩
 ·have := hk1.size
  exact .inr (by omega)
end Go.Proofs
namespace Go.AL
open Go.RowKit Go.Proofs Go.Shelf
def Xb (bo : Nat) (w : World) (q : Nat) : Prop := q = bo ∨ ∃ v,w.cell? ⟨bo,1,none⟩ = some v ∧ v.ownBlock = some q
structure ScI (T e ts : TypeId) (W0 : World) (bx bo bl : Nat) (L : List ByteArray) (p : Prg) (out : List UInt8) (w : World) : Prop where
 bw : Below W0.heap.size W0 w
 hx : W0.heap.size ≤ bx
 ho : W0.heap.size ≤ bo
 n1 : bx ≠ bo
 n2 : bl ≠ bo
 n3 : bl ≠ bx
 bd : Lib.IsBuilderF T e W0.heap.size bo (Lib.byteCells out) w
 ln : w.heap[bl]? = some (.cells (L.map Value.string).toArray ts (0,0))
 nx : ¬ Xb bo w bx
 nl : ¬ Xb bo w bl
 x : ∃ arr tx,w.heap[bx]? = some (.cells arr tx (0,0)) ∧ 2 ≤ arr.size ∧ RdC w (fun q => Xb bo w q ∨ q = bx) (i0 bx) [sl cI p.types,sl cStmt p.body] bx 0
theorem Xb.lt {T e:TypeId}{B bo:Nat}{bs:List Value}{w:World}(h:Lib.IsBuilderF T e B bo bs w){q:Nat}(hq:Xb bo w q):q < w.heap.size ∧ B ≤ q ∧ (q = bo ∨ ∃ c fz,w.heap[q]? = some (.cells c e fz)):=by
 have key : ∀ p, Lib.BuilderAtF T e B bo p bs w → q < w.heap.size ∧ B ≤ q ∧ (q = bo ∨ ∃ c fz, w.heap[q]? = some (.cells c e fz)) := by
  rintro p ⟨hB,v,hb,hown,hne⟩
  rcases hq with rfl | ⟨v',h1,h2⟩
  ·exact ⟨lt_of_heap hb,hB,.inl rfl⟩
  ·have e1 : w.cell? ⟨bo, 1, none⟩ = some v := by rw [Lib.cell_of_heap hb]; rfl
   rw [e1] at h1
   injection h1 with h1
   subst h1
   have := hown.lt q h2
   exact ⟨this.2,this.1,.inr (Lib.ownsRowF_kind hown q h2)⟩
 rcases h with h|h
 ·exact key _ h
 ·exact key _ h
theorem bld_stay {T e:TypeId}{B bo:Nat}{bs:List Value}{w w':World}(h:Lib.IsBuilderF T e B bo bs w) (hs:∀ q,Xb bo w q → w'.heap[q]? = w.heap[q]?):Lib.IsBuilderF T e B bo bs w' ∧ ∀ q,Xb bo w' q ↔ Xb bo w q:=by
 have hb0 := hs bo (.inl rfl)
 have hc : w'.cell? ⟨bo,1,none⟩ = w.cell? ⟨bo,1,none⟩ := cell?_heap hb0 1
 have key : ∀ p, Lib.BuilderAtF T e B bo p bs w → Lib.BuilderAtF T e B bo p bs w' := by
  rintro p ⟨hB,v,hb,hown,hne⟩
  have e1 : w.cell? ⟨bo,1,none⟩ = some v := by rw [Lib.cell_of_heap hb]; rfl
  refine ⟨hB,v,by rw [hb0]; exact hb,⟨hown.1,?_⟩,hne⟩
  rcases hown.2 with hn | ⟨g,cap,cur,fz,rfl,hbg,hgg,rest⟩
  ·exact .inl hn
  ·exact .inr ⟨g,cap,cur,fz,rfl,hbg,by rw [hs g (.inr ⟨_,e1,rfl⟩)]; exact hgg,rest⟩
 refine ⟨h.imp (key _) (key _),fun q => ?_⟩
 unfold Xb
 rw [hc]
theorem ScI.do {T e ts:TypeId}{W0:World}{bx bo bl:Nat}{L:List ByteArray}{p q:Prg}{out:List UInt8}{w:World}(I:ScI T e ts W0 bx bo bl L p out w){P:Program}{k:FuncId}{s t:ByteArray}
  (h : MC P k [.optr 0 0,sv s] [(0,some [sl cI p.types,sl cStmt p.body])] 1 (fun _ : Unit => True) (fun _ => sv t) (fun _ => [(0,some [sl cI q.types,sl cStmt q.body])])) :
  Calls P k #[.pointer (some ⟨bx,0,none⟩),.string s] w fun e' w' => e' = .returned (.string t) ∧ ScI T e ts W0 bx bo bl L q out w' := by
 obtain ⟨arr,tx,hb,hl,hr⟩ := I.x
 have hc := calls_of_mc1 h (fun _ _ => rfl) (fun _ _ => by rw [show pursB [sl cI q.types, sl cStmt q.body] = ((sl cI q.types).pur && ((sl cStmt q.body).pur && true)) from rfl, pur_sl, pur_sl]; rfl) (Xb bo w) (fun q hq => (Xb.lt I.bd hq).1) I.nx hb (by simpa using hl) hr (vs := [.pointer (some ⟨bx, 0, none⟩), .string s])
  (by simp only [RdV,Rd]; exact ⟨_,_,rfl,⟨bx,0,rfl,rfl⟩,_,_,rfl,rfl,rfl⟩)
 refine hc.mono ?_
 rintro e' w' ⟨_,v,_,rfl,hv,ho,h1,h2,h3,h4,h5⟩
 simp only [Rd] at hv
 subst hv
 obtain ⟨hbd,hX⟩ := bld_stay I.bd (w' := w') fun q hq => h5 q (Xb.lt I.bd hq).1 (fun e => I.nx (e ▸ hq))
 rcases ho with ho | ⟨arr',ty',q1,q2,q3⟩
 ·cases ho
 refine ⟨rfl,⟨I.bw.trans ⟨h1,h2,h3,h4,fun q hq => h5 q (Nat.lt_of_lt_of_le hq I.bw.size) (fun e => by have := I.hx;omega)⟩,I.hx,I.ho,I.n1,I.n2,I.n3,hbd,?_,fun q => I.nx ((hX _).1 q),fun q => I.nl ((hX _).1 q),⟨arr',ty',q1,by simpa using q2,?_⟩⟩⟩
 ·rw [h5 bl (lt_of_heap I.ln) I.n3]; exact I.ln
 ·have : (fun q => Xb bo w' q ∨ q = bx) = (fun q => Xb bo w q ∨ q = bx) := funext fun q => propext (or_congr (hX q) Iff.rfl)
  rw [this]; exact q3
theorem ScI.write {P:Program}{ρ:Ren}(L166:Lays.n166 P ρ) (X:Builder.Extra P ρ){ts:TypeId}{W0:World}{bx bo bl:Nat}{L:List ByteArray}{p:Prg}{out:List UInt8}{w:World}(I:ScI (ρ.t 72) (ρ.t 5) ts W0 bx bo bl L p out w) (t:ByteArray) (hl:out.length + t.size ≤ 140737488355328) :
  Calls P (ρ.f 166) #[.pointer (some ⟨bo,0,none⟩),.string t] w fun e' w' => e' = .returned (.tuple #[.int .i64 t.size,.nilIface]) ∧ ScI (ρ.t 72) (ρ.t 5) ts W0 bx bo bl L p (out ++ t.data.toList) w' := by
 refine (WriteString_p L166 X W0.heap.size bo (Lib.byteCells out) t w I.bd (by rw [Lib.byteCells_length]; exact hl) I.bw.size).mono ?_
 rintro e' w' ⟨rfl,h1,h2,h3⟩
 have hX : ∀ q, Xb bo w' q → Xb bo w q ∨ w.heap.size ≤ q := by
  rintro q (rfl | ⟨v,q1,q2⟩)
  ·exact .inl (.inl rfl)
  ·rcases h3 v q q1 q2 with q3 | q3
   ·exact .inl (.inr q3)
   ·exact .inr q3
 have hst : ∀ q,q < w.heap.size → ¬ Xb bo w q → w'.heap[q]? = w.heap[q]? := fun q hq hn => h2.block q hq hn
 obtain ⟨arr,tx,hb,hl2,hr⟩ := I.x
 refine ⟨rfl,⟨I.bw.trans ⟨h2.os,h2.tape,h2.output,h2.size,fun q hq => hst q (Nat.lt_of_lt_of_le hq I.bw.size) (fun e => by have := (Xb.lt I.bd e).2.1;omega)⟩,I.hx,I.ho,I.n1,I.n2,I.n3,?_,?_,fun q => ?_,fun q => ?_,⟨arr,tx,?_,hl2,?_⟩⟩⟩
 ·have e : Lib.byteCells (out ++ t.data.toList) = Lib.byteCells out ++ Lib.strCells t := by simp [Lib.byteCells, Lib.strCells]
  rw [e]
  exact .inr h1
 ·rw [hst bl (lt_of_heap I.ln) I.nl]; exact I.ln
 ·rcases hX _ q with q | q
  ·exact I.nx q
  ·have := lt_of_heap hb;omega
 ·rcases hX _ q with q | q
  ·exact I.nl q
  ·have := lt_of_heap I.ln;omega
 ·rw [hst bx (lt_of_heap hb) I.nx]; exact hb
 ·refine RdC.carryP (w := w) (bad := fun q => Xb bo w q ∨ q = bx) (ι := i0 bx) (fun b o y hn hc => ⟨?_, ?_⟩) _ _ _ (by rw [show pursB [sl cI p.types, sl cStmt p.body] = ((sl cI p.types).pur && ((sl cStmt p.body).pur && true)) from rfl, pur_sl, pur_sl]; rfl) (fun o y hy => by rw [cell?_heap (hst bx (lt_of_heap hb) I.nx)]; exact hy) hr
  ·have hlt := lt_of_cell hc
   rintro (q|q)
   ·rcases hX _ q with q | q
    ·exact hn (.inl q)
    ·omega
   ·exact hn (.inr q)
  ·rw [cell?_heap (hst b (lt_of_cell hc) (fun q => hn (.inl q)))]; exact hc
end Go.AL
namespace Go.Proofs
open Go.Shelf Go.RowKit Go.Lib
variable {P : Program} {ρ : Ren}
theorem Count_oneB (L:Lays.n138 P ρ) (s:ByteArray) (c:UInt8) (w:World):Calls P (ρ.f 138) #[.string s,.string ⟨#[c]⟩] w fun e w' => e = .returned (.int .i64 (Lib.countB s ⟨#[c]⟩)) ∧ w' = w:=by
 refine (Any.strings_Count_one L s c w).mono fun e w' ⟨he,hw⟩ => ⟨?_,hw⟩
 rw [he]
 show _ = Ending.returned (Value.int .i64 ((Lib.count s.data.toList [c] : Nat) : Int))
 rw [Lib.count_one]
 rfl
theorem Index_oneB (L:Lays.n143 P ρ) (s:ByteArray) (c:UInt8) (w:World):Calls P (ρ.f 143) #[.string s,.string ⟨#[c]⟩] w fun e w' => e = .returned (.int .i64 (Lib.indexB s ⟨#[c]⟩)) ∧ w' = w:=by
 refine (Any.strings_Index_one L s c w).mono fun e w' ⟨he,hw⟩ => ⟨?_,hw⟩
 rw [he]
 show _ = Ending.returned (Value.int .i64 (Lib.index s.data.toList [c]))
 rw [Lib.index_one]
set_option maxHeartbeats 1000000 in
theorem Split_one (L:Lays.n146 P ρ) (hi9:(P.info? (ρ.t 9)).map (fun i => (i.zero,i.size,i.bytes)) = some (some (.string ByteArray.empty),1,16)) (s:ByteArray) (ch:UInt8) (w:World) (hs:s.size < 4294967281) :
  Calls P (ρ.f 146) #[.string s, .string ⟨#[ch]⟩] w fun e w' =>
   e = .returned (.slice (some ⟨w.heap.size,0,none⟩) (Lib.splitB ⟨#[ch]⟩ 0 (Lib.countB s ⟨#[ch]⟩) s).length (Lib.splitB ⟨#[ch]⟩ 0 (Lib.countB s ⟨#[ch]⟩) s).length) ∧ w' = w.alloc (.cells ((Lib.splitB ⟨#[ch]⟩ 0 (Lib.countB s ⟨#[ch]⟩) s).map Value.string).toArray (ρ.t 9)) := by
 have h1 : 1 ≤ (ByteArray.mk #[ch]).size := Nat.le_refl 1
 have hle := Lib.countB_le ⟨#[ch]⟩ h1 s.size s (Nat.le_refl _)
 have hlen := Lib.splitB_all ⟨#[ch]⟩ h1 0 _ s rfl
 have c := Any.strings_genSplit_core { L with } hi9 s ⟨#[ch]⟩ 0 (-1) (Lib.countB s ⟨#[ch]⟩ + 1) w hs h1 (Nat.zero_le _) (fun x c hx => Index_oneB { L with } x ch _) (Count_oneB { L with } s ch w) (by decide) (by decide) (by rw [if_pos (by decide)]; omega)
 rw [Nat.add_sub_cancel,hlen] at c
 have e2 : Lib.cellsOf (Lib.splitB ⟨#[ch]⟩ 0 (Lib.countB s ⟨#[ch]⟩) s) (Lib.countB s ⟨#[ch]⟩ + 1) = ((Lib.splitB ⟨#[ch]⟩ 0 (Lib.countB s ⟨#[ch]⟩) s).map Value.string).toArray := by rw [← hlen]; exact Lib.cellsOf_full _
 rw [e2] at c
 rw [hlen]
 have t3 := L.t3;have t9 := L.t9;have t31 := L.t31
 have a3 := L.a3;have a9 := L.a9;have a31 := L.a31
 have z3 := L.z3;have v3 := L.v3;have z9 := L.z9;have v9 := L.v9;have z31 := L.z31;have v31 := L.v31
 have e221 : ∀ args w,(callFunc (ρ.f 221) args).run P w = .ok (.enter (ρ.f 221) args) w := enters_of L.f221 (by kernel_rfl) rfl
 go_enter L.f146,Body.n146_ntmps ρ
 go_wp2_with (go_at_fn (ρ.f 221);refine c.mono ?_; rintro e w' ⟨rfl,hw⟩; rw [hw])
 go_ret
 exact ⟨rfl,rfl⟩
end Go.Proofs
namespace Go.AL
theorem bdata_app (a b:ByteArray):(a ++ b).data.toList = a.data.toList ++ b.data.toList:=by
 simp [ByteArray.data_append]
theorem textA_data:∀ (l:List Stmt) (out:ByteArray) (k:Nat),0 < k → (textA out k l).data.toList = out.data.toList ++ Lib.joinTail [59] (l.map fun s => (textS s).data.toList)
 | [],out,k,_ => by simp [textA,Lib.joinTail]
 | s :: l, out, k, h => by
  rw [textA,textA_data l _ _ (Nat.succ_pos k)]
  unfold joinF
  rw [if_pos h,bdata_app,bdata_app]
  simp [Lib.joinTail,List.append_assoc]
theorem textL_data (l:List Stmt):(textL l).data.toList = Lib.join (l.map fun s => (textS s).data.toList) [59]:=by
 unfold textL
 cases l with
 | nil => rfl
 | cons s l =>
  rw [textA,textA_data l _ _ (by decide),List.map_cons,Lib.join_cons]
  unfold joinF
  rw [if_neg (by decide),bdata_app]
  rfl
theorem textL_join (l:List Stmt):textL l = ⟨(Lib.join ((l.map textS).map (·.data.toList)) [59]).toArray⟩:=by
 have h := textL_data l
 rw [List.map_map]
 change (textL l).data.toList = Lib.join (l.map ((fun x => x.data.toList) ∘ textS)) [59] at h
 rw [← h]
open Go.Lib
theorem indexByte_at (c:UInt8) (r:List UInt8):∀ a:List UInt8,c ∉ a → indexByte (a ++ c :: r) c = a.length
 | [],_ => by simp [indexByte]
 | b :: a, h => by
  have hb : ¬ b = c := fun e => h (by simp [e])
  have ih := indexByte_at c r a (fun q => h (List.mem_cons_of_mem _ q))
  rw [List.cons_append,indexByte,ih]
  have h1 : (b == c) = false := by simpa using hb
  have h2 : ((a.length : Int) == -1) = false := by simp
  rw [h1,h2]; simp
theorem split_hit {c:UInt8}{a:List UInt8}(r:List UInt8) (h:c ∉ a):split (a ++ c :: r) [c] = a :: split r [c]:=by
 have hc : count (a ++ c :: r) [c] = count r [c] + 1 := by
  rw [count_one,count_one,List.count_append,List.count_cons_self,List.count_eq_zero_of_not_mem h]; omega
 have hi : index (a ++ c :: r) [c] = a.length := by rw [index_one]; exact indexByte_at c r a h
 unfold split
 rw [hc,splitK,hi]
 have h2 : ((a.length : Int) == -1) = false := by simp
 rw [h2]
 simp
theorem split_miss {c:UInt8}{a:List UInt8}(h:c ∉ a):split a [c] = [a]:=by
 have hc : count a [c] = 0 := by rw [count_one]; exact List.count_eq_zero_of_not_mem h
 unfold split
 rw [hc]; rfl
theorem splitB_of (s:ByteArray) (c:UInt8):splitB ⟨#[c]⟩ 0 (countB s ⟨#[c]⟩) s = (split s.data.toList [c]).map fun l => ⟨l.toArray⟩:=by
 have h := splitB_data ⟨#[c]⟩ 0 (countB s ⟨#[c]⟩) s
 have e : splitB ⟨#[c]⟩ 0 (countB s ⟨#[c]⟩) s = ((splitB ⟨#[c]⟩ 0 (countB s ⟨#[c]⟩) s).map (·.data.toList)).map fun l => ⟨l.toArray⟩ := by
  rw [List.map_map]
  conv => lhs;rw [← List.map_id (splitB ⟨#[c]⟩ 0 (countB s ⟨#[c]⟩) s)]
  exact List.map_congr_left fun x _ => rfl
 rw [e,h]; rfl
def b8 (n : Int) : UInt8 := UInt8.ofNat n.toNat
def tS (s : Stmt) : List UInt8 := (textS s).data.toList
def tL (l : List Stmt) : List UInt8 := (textL l).data.toList
theorem letF_l (v:Int):(letF v).data.toList = [b8 (97 + v)] := rfl
theorem decF_l (v:Int):(decF v).data.toList = [b8 (48 + v)] := by unfold decF;rw [bdata_app]; rfl
theorem tS1 (x y n:Int) (th el:List Stmt):tS (.mk 1 x y n th el) = [b8 (97 + x),61,b8 (48 + n)]:=by
 unfold tS;rw [textS_def]; simp [Stmt.op,Stmt.x,Stmt.n,letF_l,decF_l]
theorem tS2 (x y n:Int) (th el:List Stmt):tS (.mk 2 x y n th el) = [b8 (97 + x),61,98,111,120,32,b8 (48 + n)]:=by
 unfold tS;rw [textS_def]; simp [Stmt.op,Stmt.x,Stmt.n,letF_l,decF_l]
theorem tS3 (x y n:Int) (th el:List Stmt):tS (.mk 3 x y n th el) = [b8 (97 + x),61,b8 (97 + y)]:=by
 unfold tS;rw [textS_def]; simp [Stmt.op,Stmt.x,Stmt.y,letF_l]
theorem tS4 (x y n:Int) (th el:List Stmt):tS (.mk 4 x y n th el) = [b8 (97 + x),61,38,b8 (97 + y)]:=by
 unfold tS;rw [textS_def]; simp [Stmt.op,Stmt.x,Stmt.y,letF_l]
theorem tS5 (x y n:Int) (th el:List Stmt):tS (.mk 5 x y n th el) = [b8 (97 + x),61,38,109,117,116,32,b8 (97 + y)]:=by
 unfold tS;rw [textS_def]; simp [Stmt.op,Stmt.x,Stmt.y,letF_l]
theorem tS6 (x y n:Int) (th el:List Stmt):tS (.mk 6 x y n th el) = [b8 (97 + x),61,42,b8 (97 + y)]:=by
 unfold tS;rw [textS_def]; simp [Stmt.op,Stmt.x,Stmt.y,letF_l]
theorem tS7 (x y n:Int) (th el:List Stmt):tS (.mk 7 x y n th el) = [42,b8 (97 + x),61,b8 (97 + y)]:=by
 unfold tS;rw [textS_def]; simp [Stmt.op,Stmt.x,Stmt.y,letF_l]
theorem tS8 (x y n:Int) (th el:List Stmt):tS (.mk 8 x y n th el) = [100,114,111,112,32,b8 (97 + x)]:=by
 unfold tS;rw [textS_def]; simp [Stmt.op,Stmt.x,letF_l]
theorem tS9 (x y n:Int) (th el:List Stmt):tS (.mk 9 x y n th el) = [105,102,123] ++ tL th ++ [125,123] ++ tL el ++ [125]:=by
 unfold tS tL;rw [textS_def]; simp [Stmt.op,Stmt.th,Stmt.el]
theorem tS10 (x y n:Int) (th el:List Stmt):tS (.mk 10 x y n th el) = [108,111,111,112,123] ++ tL th ++ [125]:=by
 unfold tS tL;rw [textS_def]; simp [Stmt.op,Stmt.th]
theorem tL_nil:tL [] = [] := rfl
theorem tL_cons (s:Stmt) (l:List Stmt):tL (s :: l) = tS s ++ Lib.joinTail [59] (l.map tS):=by
 unfold tL;rw [textL_data,List.map_cons,Lib.join_cons]; rfl
theorem joinTail_cons (s:List UInt8) (l:List (List UInt8)):Lib.joinTail [59] (s :: l) = 59 :: (s ++ Lib.joinTail [59] l):=by
 simp [Lib.joinTail]
open Go.Lib
theorem split2 {a b:List UInt8}(ha:(10:UInt8) ∉ a) (hb:(10:UInt8) ∉ b):split (a ++ 10 :: (b ++ [10])) [10] = [a,b,[]]:=by
 rw [split_hit _ ha,split_hit [] hb,split_miss (by simp)]
theorem split3 {a b c:List UInt8}(ha:(10:UInt8) ∉ a) (hb:(10:UInt8) ∉ b) (hc:(10:UInt8) ∉ c):split (a ++ 10 :: (b ++ 10 :: (c ++ [10]))) [10] = [a,b,c,[]]:=by
 rw [split_hit _ ha,split_hit _ hb,split_hit [] hc,split_miss (by simp)]
end Go.AL
namespace Go.Proofs
open Go.Shelf Go.RowKit Go.Lib
def Tryz.lays170_ren : Go.Shelf.Ren := ⟨fun | 170 => 44 | n => n,fun | 70 => 61 | 3 => 3 | 0 => 0 | 72 => 63 | 37 => 22 | 5 => 5 | n => n,fun | n => n⟩
theorem Tryz.lays170:Go.Proofs.Lays.n170 Tryz.prog Tryz.lays170_ren := {
 mixed := by kernel_rfl
 f170 := Tryz.func44.trans (congrArg some (by kernel_rfl))
 t0 := Tryz.underlying0
 a0 := Tryz.isAgg0
 z0 := Tryz.sizeOf0
 v0 := Tryz.zeroValue0
 t3 := Tryz.underlying3
 a3 := Tryz.isAgg3
 z3 := Tryz.sizeOf3
 v3 := Tryz.zeroValue3
 t37 := Tryz.underlying22
 a37 := Tryz.isAgg22
 z37 := Tryz.sizeOf22
 v37 := Tryz.zeroValue22
 t70 := Tryz.underlying61
 a70 := Tryz.isAgg61
 z70 := Tryz.sizeOf61
 v70 := Tryz.zeroValue61
 t72 := Tryz.underlying63
 a72 := Tryz.isAgg63
 z72 := Tryz.sizeOf63
 v72 := Tryz.zeroValue63 }
def Tryz.lays169_ren : Go.Shelf.Ren := ⟨fun | 169 => 45 | n => n,fun | 70 => 61 | 9 => 9 | 0 => 0 | 72 => 63 | 37 => 22 | 127 => 108 | 3 => 3 | 5 => 5 | n => n,fun | n => n⟩
theorem Tryz.lays169:Go.Proofs.Lays.n169 Tryz.prog Tryz.lays169_ren := {
 mixed := by kernel_rfl
 f169 := Tryz.func45.trans (congrArg some (by kernel_rfl))
 t0 := Tryz.underlying0
 a0 := Tryz.isAgg0
 z0 := Tryz.sizeOf0
 v0 := Tryz.zeroValue0
 t3 := Tryz.underlying3
 a3 := Tryz.isAgg3
 z3 := Tryz.sizeOf3
 v3 := Tryz.zeroValue3
 t9 := Tryz.underlying9
 a9 := Tryz.isAgg9
 z9 := Tryz.sizeOf9
 v9 := Tryz.zeroValue9
 t37 := Tryz.underlying22
 a37 := Tryz.isAgg22
 z37 := Tryz.sizeOf22
 v37 := Tryz.zeroValue22
 t70 := Tryz.underlying61
 a70 := Tryz.isAgg61
 z70 := Tryz.sizeOf61
 v70 := Tryz.zeroValue61
 t72 := Tryz.underlying63
 a72 := Tryz.isAgg63
 z72 := Tryz.sizeOf63
 v72 := Tryz.zeroValue63
 t127 := Tryz.underlying108
 a127 := Tryz.isAgg108
 z127 := Tryz.sizeOf108
 v127 := Tryz.zeroValue108 }
theorem Tryz.Builder_Extra_169:Builder.Extra Tryz.prog Tryz.lays169_ren := {
 sizeBuilder := by kernel_rfl
 liesBuilder := by kernel_rfl
 t5 := Tryz.underlying5
 a5 := Tryz.isAgg5
 z5 := Tryz.sizeOf5
 v5 := Tryz.zeroValue5
 infoByte := by kernel_rfl
 cellsByte := by kernel_rfl
 sizeByte := by kernel_rfl
 neB5 := by decide }
def Tryz.lays156_ren : Go.Shelf.Ren := ⟨fun | 156 => 139 | 165 => 204 | 166 => 46 | 169 => 45 | 240 => 80 | 241 => 263 | 276 => 119 | 277 => 299 | n => n,fun | 31 => 46 | 9 => 9 | 3 => 3 | 4 => 4 | 0 => 0 | 20 => 20 | 72 => 63 | 76 => 68 | 70 => 61 | 37 => 22 | 75 => 67 | 127 => 108 | 164 => 151 | 5 => 5 | 80 => 65 | n => n,fun | n => n⟩
theorem Tryz.lays156:Go.Proofs.Lays.n156 Tryz.prog Tryz.lays156_ren := {
 mixed := by kernel_rfl
 f156 := Tryz.func139.trans (congrArg some (by kernel_rfl))
 f165 := Tryz.func204.trans (congrArg some (by kernel_rfl))
 f166 := Tryz.func46.trans (congrArg some (by kernel_rfl))
 f169 := Tryz.func45.trans (congrArg some (by kernel_rfl))
 f240 := Tryz.func80.trans (congrArg some (by kernel_rfl))
 f241 := Tryz.func263.trans (congrArg some (by kernel_rfl))
 f276 := Tryz.func119.trans (congrArg some (by kernel_rfl))
 f277 := Tryz.func299.trans (congrArg some (by kernel_rfl))
 t0 := Tryz.underlying0
 a0 := Tryz.isAgg0
 z0 := Tryz.sizeOf0
 v0 := Tryz.zeroValue0
 t3 := Tryz.underlying3
 a3 := Tryz.isAgg3
 z3 := Tryz.sizeOf3
 v3 := Tryz.zeroValue3
 t4 := Tryz.underlying4
 a4 := Tryz.isAgg4
 z4 := Tryz.sizeOf4
 v4 := Tryz.zeroValue4
 t9 := Tryz.underlying9
 a9 := Tryz.isAgg9
 z9 := Tryz.sizeOf9
 v9 := Tryz.zeroValue9
 t20 := Tryz.underlying20
 a20 := Tryz.isAgg20
 z20 := Tryz.sizeOf20
 v20 := Tryz.zeroValue20
 t31 := Tryz.underlying46
 a31 := Tryz.isAgg46
 z31 := Tryz.sizeOf46
 v31 := Tryz.zeroValue46
 t37 := Tryz.underlying22
 a37 := Tryz.isAgg22
 z37 := Tryz.sizeOf22
 v37 := Tryz.zeroValue22
 t70 := Tryz.underlying61
 a70 := Tryz.isAgg61
 z70 := Tryz.sizeOf61
 v70 := Tryz.zeroValue61
 t72 := Tryz.underlying63
 a72 := Tryz.isAgg63
 z72 := Tryz.sizeOf63
 v72 := Tryz.zeroValue63
 t75 := Tryz.underlying67
 a75 := Tryz.isAgg67
 z75 := Tryz.sizeOf67
 v75 := Tryz.zeroValue67
 t76 := Tryz.underlying68
 a76 := Tryz.isAgg68
 z76 := Tryz.sizeOf68
 v76 := Tryz.zeroValue68
 t127 := Tryz.underlying108
 a127 := Tryz.isAgg108
 z127 := Tryz.sizeOf108
 v127 := Tryz.zeroValue108
 t164 := Tryz.underlying151
 a164 := Tryz.isAgg151
 z164 := Tryz.sizeOf151
 v164 := Tryz.zeroValue151 }
theorem Tryz.Builder_Extra_156:Builder.Extra Tryz.prog Tryz.lays156_ren := {
 sizeBuilder := by kernel_rfl
 liesBuilder := by kernel_rfl
 t5 := Tryz.underlying5
 a5 := Tryz.isAgg5
 z5 := Tryz.sizeOf5
 v5 := Tryz.zeroValue5
 infoByte := by kernel_rfl
 cellsByte := by kernel_rfl
 sizeByte := by kernel_rfl
 neB5 := by decide }
theorem Tryz.strings_Join_none (a:Option Addr) (c:Nat) (sep:ByteArray) (w:World) :
  Calls Tryz.prog 139 #[.slice a 0 c,.string sep] w fun e w' => e = .returned (.string ⟨#[]⟩) ∧ w' = w := Any.strings_Join_none Tryz.lays156 Tryz.Builder_Extra_156 a c sep w
theorem Tryz.strings_Join (bk o c:Nat) (xs:List ByteArray) (sep:ByteArray) (w:World) (hcells:∀ (j:Nat) x,xs[j]? = some x → w.cell? ⟨bk,o + j,none⟩ = some (.string x)) (hbk:bk < w.heap.size) (hN:xs.length ≤ 140737488355328) (hcap:xs.length ≤ c) (hlen:(Lib.join (xs.map (·.data.toList)) sep.data.toList).length ≤ 140737488355328) :
  Calls Tryz.prog 139 #[.slice (some ⟨bk,o,none⟩) xs.length c,.string sep] w fun e w' => e = .returned (.string ⟨(Lib.join (xs.map (·.data.toList)) sep.data.toList).toArray⟩) ∧ Below w.heap.size w w' := Any.strings_Join Tryz.lays156 Tryz.Builder_Extra_156 bk o c xs sep w hcells hbk hN hcap hlen
def Tryz.lays137_ren : Go.Shelf.Ren := ⟨fun | 137 => 127 | 217 => 192 | 266 => 253 | n => n,fun | 9 => 9 | 5 => 5 | 3 => 3 | n => n,fun | n => n⟩
theorem Tryz.lays137:Go.Proofs.Lays.n137 Tryz.prog Tryz.lays137_ren := {
 mixed := by kernel_rfl
 f137 := Tryz.func127.trans (congrArg some (by kernel_rfl))
 f217 := Tryz.func192.trans (congrArg some (by kernel_rfl))
 f266 := Tryz.func253.trans (congrArg some (by kernel_rfl))
 t3 := Tryz.underlying3
 a3 := Tryz.isAgg3
 z3 := Tryz.sizeOf3
 v3 := Tryz.zeroValue3
 t5 := Tryz.underlying5
 a5 := Tryz.isAgg5
 z5 := Tryz.sizeOf5
 v5 := Tryz.zeroValue5
 t9 := Tryz.underlying9
 a9 := Tryz.isAgg9
 z9 := Tryz.sizeOf9
 v9 := Tryz.zeroValue9 }
theorem Tryz.strings_IndexByte (s:ByteArray) (c:Int) (w:World) :
  Calls Tryz.prog 127 #[.string s,.int .u8 c] w fun e w' => e = .returned (.int .i64 (Lib.indexByte s.data.toList c.toNat.toUInt8)) ∧ w' = w := Any.strings_IndexByte Tryz.lays137 s c w
theorem Tryz.Builder_Len_f (B b:Nat) (bs:List Value) (w:World) (h:Lib.IsBuilderF 63 5 B b bs w) :
  Calls Tryz.prog 44 #[.pointer (some ⟨b,0,none⟩)] w fun e w' => e = .returned (.int .i64 bs.length) ∧ w' = w := Any.Builder_Len_f Tryz.lays170 B b bs w h
theorem Tryz.Builder_String_any_f (B b:Nat) (l:List UInt8) (w:World) (h:Lib.IsBuilderF 63 5 B b (Lib.byteCells l) w) (hBw:B ≤ w.heap.size) :
  Calls Tryz.prog 45 #[.pointer (some ⟨b,0,none⟩)] w fun e w' => e = .returned (.string ⟨l.toArray⟩) ∧ (Lib.IsBuilderF 63 5 B b (Lib.byteCells l) w' ∧ Below B w w') := Any.Builder_String_any_f Tryz.lays169 Tryz.Builder_Extra_169 B b l w h hBw
def Tryz.lays219_ren : Go.Shelf.Ren := ⟨fun | 219 => 182 | 217 => 192 | 225 => 240 | 224 => 241 | 267 => 242 | 266 => 253 | 314 => 286 | n => n,fun | 9 => 9 | 3 => 3 | 4 => 4 | 5 => 5 | 46 => 257 | 146 => 294 | 51 => 293 | n => n,fun | 1 => 0 | n => n⟩
theorem Tryz.lays219:Go.Proofs.Lays.n219 Tryz.prog Tryz.lays219_ren := {
 mixed := by kernel_rfl
 f217 := Tryz.func192.trans (congrArg some (by kernel_rfl))
 f219 := Tryz.func182.trans (congrArg some (by kernel_rfl))
 f224 := Tryz.func241.trans (congrArg some (by kernel_rfl))
 f225 := Tryz.func240.trans (congrArg some (by kernel_rfl))
 f266 := Tryz.func253.trans (congrArg some (by kernel_rfl))
 f267 := Tryz.func242.trans (congrArg some (by kernel_rfl))
 f314 := Tryz.func286.trans (congrArg some (by kernel_rfl))
 t3 := Tryz.underlying3
 a3 := Tryz.isAgg3
 z3 := Tryz.sizeOf3
 v3 := Tryz.zeroValue3
 t4 := Tryz.underlying4
 a4 := Tryz.isAgg4
 z4 := Tryz.sizeOf4
 v4 := Tryz.zeroValue4
 t5 := Tryz.underlying5
 a5 := Tryz.isAgg5
 z5 := Tryz.sizeOf5
 v5 := Tryz.zeroValue5
 t9 := Tryz.underlying9
 a9 := Tryz.isAgg9
 z9 := Tryz.sizeOf9
 v9 := Tryz.zeroValue9
 t46 := Tryz.underlying257
 a46 := Tryz.isAgg257
 z46 := Tryz.sizeOf257
 v46 := Tryz.zeroValue257
 t51 := Tryz.underlying293
 a51 := Tryz.isAgg293
 z51 := Tryz.sizeOf293
 v51 := Tryz.zeroValue293
 t146 := Tryz.underlying294
 a146 := Tryz.isAgg294
 z146 := Tryz.sizeOf294
 v146 := Tryz.zeroValue294
 g1 := by kernel_rfl }
theorem Tryz.stringslite_Index_one (s:ByteArray) (c:UInt8) (w:World) :
  Calls Tryz.prog 182 #[.string s,.string ⟨#[c]⟩] w fun e w' => e = .returned (.int .i64 (Lib.indexByte s.data.toList c)) ∧ w' = w := Any.stringslite_Index_one Tryz.lays219 s c w
def Tryz.lays143_ren : Go.Shelf.Ren := ⟨fun | 143 => 118 | 219 => 182 | 217 => 192 | 225 => 240 | 224 => 241 | 267 => 242 | 266 => 253 | 314 => 286 | n => n,fun | 9 => 9 | 3 => 3 | 4 => 4 | 5 => 5 | 46 => 257 | 146 => 294 | 51 => 293 | n => n,fun | 1 => 0 | n => n⟩
theorem Tryz.lays143:Go.Proofs.Lays.n143 Tryz.prog Tryz.lays143_ren := {
 mixed := by kernel_rfl
 f143 := Tryz.func118.trans (congrArg some (by kernel_rfl))
 f217 := Tryz.func192.trans (congrArg some (by kernel_rfl))
 f219 := Tryz.func182.trans (congrArg some (by kernel_rfl))
 f224 := Tryz.func241.trans (congrArg some (by kernel_rfl))
 f225 := Tryz.func240.trans (congrArg some (by kernel_rfl))
 f266 := Tryz.func253.trans (congrArg some (by kernel_rfl))
 f267 := Tryz.func242.trans (congrArg some (by kernel_rfl))
 f314 := Tryz.func286.trans (congrArg some (by kernel_rfl))
 t3 := Tryz.underlying3
 a3 := Tryz.isAgg3
 z3 := Tryz.sizeOf3
 v3 := Tryz.zeroValue3
 t4 := Tryz.underlying4
 a4 := Tryz.isAgg4
 z4 := Tryz.sizeOf4
 v4 := Tryz.zeroValue4
 t5 := Tryz.underlying5
 a5 := Tryz.isAgg5
 z5 := Tryz.sizeOf5
 v5 := Tryz.zeroValue5
 t9 := Tryz.underlying9
 a9 := Tryz.isAgg9
 z9 := Tryz.sizeOf9
 v9 := Tryz.zeroValue9
 t46 := Tryz.underlying257
 a46 := Tryz.isAgg257
 z46 := Tryz.sizeOf257
 v46 := Tryz.zeroValue257
 t51 := Tryz.underlying293
 a51 := Tryz.isAgg293
 z51 := Tryz.sizeOf293
 v51 := Tryz.zeroValue293
 t146 := Tryz.underlying294
 a146 := Tryz.isAgg294
 z146 := Tryz.sizeOf294
 v146 := Tryz.zeroValue294
 g1 := by kernel_rfl }
theorem Tryz.strings_Index_one (s:ByteArray) (c:UInt8) (w:World) :
  Calls Tryz.prog 118 #[.string s,.string ⟨#[c]⟩] w fun e w' => e = .returned (.int .i64 (Lib.indexByte s.data.toList c)) ∧ w' = w := Any.strings_Index_one Tryz.lays143 s c w
def Tryz.lays138_ren : Go.Shelf.Ren := ⟨fun | 138 => 117 | 195 => 179 | 218 => 181 | 143 => 118 | 219 => 182 | 217 => 192 | 225 => 240 | 224 => 241 | 267 => 242 | 266 => 253 | 314 => 286 | n => n,fun | 9 => 9 | 3 => 3 | 4 => 4 | 5 => 5 | 0 => 0 | 46 => 257 | 146 => 294 | 51 => 293 | n => n,fun | 1 => 0 | n => n⟩
theorem Tryz.lays138:Go.Proofs.Lays.n138 Tryz.prog Tryz.lays138_ren := {
 mixed := by kernel_rfl
 f138 := Tryz.func117.trans (congrArg some (by kernel_rfl))
 f143 := Tryz.func118.trans (congrArg some (by kernel_rfl))
 f195 := Tryz.func179.trans (congrArg some (by kernel_rfl))
 f217 := Tryz.func192.trans (congrArg some (by kernel_rfl))
 f218 := Tryz.func181.trans (congrArg some (by kernel_rfl))
 f219 := Tryz.func182.trans (congrArg some (by kernel_rfl))
 f224 := Tryz.func241.trans (congrArg some (by kernel_rfl))
 f225 := Tryz.func240.trans (congrArg some (by kernel_rfl))
 f266 := Tryz.func253.trans (congrArg some (by kernel_rfl))
 f267 := Tryz.func242.trans (congrArg some (by kernel_rfl))
 f314 := Tryz.func286.trans (congrArg some (by kernel_rfl))
 t0 := Tryz.underlying0
 a0 := Tryz.isAgg0
 z0 := Tryz.sizeOf0
 v0 := Tryz.zeroValue0
 t3 := Tryz.underlying3
 a3 := Tryz.isAgg3
 z3 := Tryz.sizeOf3
 v3 := Tryz.zeroValue3
 t4 := Tryz.underlying4
 a4 := Tryz.isAgg4
 z4 := Tryz.sizeOf4
 v4 := Tryz.zeroValue4
 t5 := Tryz.underlying5
 a5 := Tryz.isAgg5
 z5 := Tryz.sizeOf5
 v5 := Tryz.zeroValue5
 t9 := Tryz.underlying9
 a9 := Tryz.isAgg9
 z9 := Tryz.sizeOf9
 v9 := Tryz.zeroValue9
 t46 := Tryz.underlying257
 a46 := Tryz.isAgg257
 z46 := Tryz.sizeOf257
 v46 := Tryz.zeroValue257
 t51 := Tryz.underlying293
 a51 := Tryz.isAgg293
 z51 := Tryz.sizeOf293
 v51 := Tryz.zeroValue293
 t146 := Tryz.underlying294
 a146 := Tryz.isAgg294
 z146 := Tryz.sizeOf294
 v146 := Tryz.zeroValue294
 g1 := by kernel_rfl }
theorem Tryz.strings_Count_one (s:ByteArray) (c:UInt8) (w:World) :
  Calls Tryz.prog 117 #[.string s,.string ⟨#[c]⟩] w fun e w' => e = .returned (.int .i64 (Lib.countByte s.data.toList c)) ∧ w' = w := Any.strings_Count_one Tryz.lays138 s c w
def Tryz.lays146_ren : Go.Shelf.Ren := ⟨fun | 146 => 43 | 221 => 79 | 268 => 116 | 138 => 117 | 143 => 118 | 195 => 179 | 197 => 180 | 218 => 181 | 219 => 182 | 260 => 239 | 217 => 192 | 225 => 240 | 224 => 241 | 267 => 242 | 266 => 253 | 314 => 286 | n => n,fun | 9 => 9 | 31 => 46 | 3 => 3 | 4 => 4 | 0 => 0 | 105 => 209 | 21 => 21 | 5 => 5 | 46 => 257 | 119 => 289 | 139 => 292 | 138 => 291 | 146 => 294 | 51 => 293 | n => n,fun | 1 => 0 | 3 => 1 | 4 => 2 | n => n⟩
theorem Tryz.lays146:Go.Proofs.Lays.n146 Tryz.prog Tryz.lays146_ren := {
 mixed := by kernel_rfl
 f138 := Tryz.func117.trans (congrArg some (by kernel_rfl))
 f143 := Tryz.func118.trans (congrArg some (by kernel_rfl))
 f146 := Tryz.func43.trans (congrArg some (by kernel_rfl))
 f195 := Tryz.func179.trans (congrArg some (by kernel_rfl))
 f197 := Tryz.func180.trans (congrArg some (by kernel_rfl))
 f217 := Tryz.func192.trans (congrArg some (by kernel_rfl))
 f218 := Tryz.func181.trans (congrArg some (by kernel_rfl))
 f219 := Tryz.func182.trans (congrArg some (by kernel_rfl))
 f221 := Tryz.func79.trans (congrArg some (by kernel_rfl))
 f224 := Tryz.func241.trans (congrArg some (by kernel_rfl))
 f225 := Tryz.func240.trans (congrArg some (by kernel_rfl))
 f260 := Tryz.func239.trans (congrArg some (by kernel_rfl))
 f266 := Tryz.func253.trans (congrArg some (by kernel_rfl))
 f267 := Tryz.func242.trans (congrArg some (by kernel_rfl))
 f268 := Tryz.func116.trans (congrArg some (by kernel_rfl))
 f314 := Tryz.func286.trans (congrArg some (by kernel_rfl))
 t0 := Tryz.underlying0
 a0 := Tryz.isAgg0
 z0 := Tryz.sizeOf0
 v0 := Tryz.zeroValue0
 t3 := Tryz.underlying3
 a3 := Tryz.isAgg3
 z3 := Tryz.sizeOf3
 v3 := Tryz.zeroValue3
 t4 := Tryz.underlying4
 a4 := Tryz.isAgg4
 z4 := Tryz.sizeOf4
 v4 := Tryz.zeroValue4
 t5 := Tryz.underlying5
 a5 := Tryz.isAgg5
 z5 := Tryz.sizeOf5
 v5 := Tryz.zeroValue5
 t9 := Tryz.underlying9
 a9 := Tryz.isAgg9
 z9 := Tryz.sizeOf9
 v9 := Tryz.zeroValue9
 t21 := Tryz.underlying21
 a21 := Tryz.isAgg21
 z21 := Tryz.sizeOf21
 v21 := Tryz.zeroValue21
 t31 := Tryz.underlying46
 a31 := Tryz.isAgg46
 z31 := Tryz.sizeOf46
 v31 := Tryz.zeroValue46
 t46 := Tryz.underlying257
 a46 := Tryz.isAgg257
 z46 := Tryz.sizeOf257
 v46 := Tryz.zeroValue257
 t51 := Tryz.underlying293
 a51 := Tryz.isAgg293
 z51 := Tryz.sizeOf293
 v51 := Tryz.zeroValue293
 t105 := Tryz.underlying209
 a105 := Tryz.isAgg209
 z105 := Tryz.sizeOf209
 v105 := Tryz.zeroValue209
 t119 := Tryz.underlying289
 a119 := Tryz.isAgg289
 z119 := Tryz.sizeOf289
 t138 := Tryz.underlying291
 a138 := Tryz.isAgg291
 z138 := Tryz.sizeOf291
 v138 := Tryz.zeroValue291
 t139 := Tryz.underlying292
 a139 := Tryz.isAgg292
 z139 := Tryz.sizeOf292
 v139 := Tryz.zeroValue292
 t146 := Tryz.underlying294
 a146 := Tryz.isAgg294
 z146 := Tryz.sizeOf294
 v146 := Tryz.zeroValue294
 g1 := by kernel_rfl
 g3 := by kernel_rfl
 g4 := by kernel_rfl }
end Go.Proofs
namespace Go.AL
open Go.RowKit
instance : FlT cS 1:=⟨fun _ => rfl⟩
theorem app_str {xs:List ByteArray}{m:Nat}{a:ByteArray}(hm:m = xs.length):((flat cS xs).drop 0).take (m * 1) ++ [sv a] = flat cS (xs ++ [a]) := app_flat hm rfl
theorem RdC_kv {w:World}{bad:Nat → Prop}{ι:Pl}:∀ {cs cs':List AV},All2 (fun c c' => c' = c ∨ c' = kAV c) cs cs' → ∀ {b β:Nat},RdC w bad ι cs b β → RdC w bad ι cs' b β
 | _,_,.nil,_,_,h => h
 | _, _, .cons h1 h2, b, β, h => by
  simp only [RdC] at h ⊢
  obtain ⟨⟨x,q1,q2,q3⟩,q4⟩ := h
  refine ⟨⟨x,q1,q2,?_⟩,RdC_kv h2 q4⟩
  rcases h1 with rfl|rfl
  ·exact q3
  ·exact Rd_kAV q3
theorem Le.stC {ts:List (Nat × AV)}{hs:List (Nat × Option (List AV))}{n i:Nat}{z0:Lo}{o x y k a b:AV}{l m:List Stmt}
  (ha : a = sl cStmt l ∨ (a = .v (.slice none 0 0) ∧ l = [])) (hb : b = sl cStmt m ∨ (b = .v (.slice none 0 0) ∧ m = []))
  (hi : lkH hs i = some [o,x,y,k,a,b]) : Le ⟨ts,hs,n,z0⟩ ⟨ts,(i,some [o,x,y,k,sl cStmt l,sl cStmt m]) :: hs,n,z0⟩ := by
 refine Le.cells hi rfl fun w bad ι b β h => RdC_kv (.cons (.inl rfl) (.cons (.inl rfl) (.cons (.inl rfl) (.cons (.inl rfl) (.cons ?_ (.cons ?_ .nil)))))) h
 ·rcases ha with h | ⟨h, h2⟩
  ·exact .inl h.symm
  ·refine .inr ?_; rw [h2,h]; rfl
 ·rcases hb with h | ⟨h, h2⟩
  ·exact .inl h.symm
  ·refine .inr ?_; rw [h2,h]; rfl
open Go.Lib
def bA (l : List UInt8) : ByteArray := ⟨l.toArray⟩
def jT (l : List Stmt) : List UInt8 := joinTail [59] (l.map tS)
theorem jT_nil:jT [] = [] := by simp [jT,joinTail]
theorem jT_cons (s:Stmt) (l:List Stmt):jT (s :: l) = 59 :: (tS s ++ jT l) := by unfold jT;rw [List.map_cons,joinTail_cons]
theorem tL_jT (s:Stmt) (l:List Stmt):tL (s :: l) = tS s ++ jT l := tL_cons s l
theorem bA_data (l:List UInt8):(bA l).data.toList = l := rfl
theorem bA_toList (l:List UInt8):(bA l).toList = l := by rw [Lib.toList_data]; rfl
theorem bA_size (l:List UInt8):(bA l).size = l.length := rfl
theorem bA_inj {l m:List UInt8}(h:bA l = bA m):l = m:=by
 have : (bA l).data.toList = (bA m).data.toList := by rw [h]
 exact this
theorem bA_of (s:ByteArray):s = bA s.data.toList := rfl
theorem bA_ext (s t:ByteArray) (h:s.data.toList = t.data.toList):s = t := by rw [bA_of s,bA_of t,h]
theorem bA_app (l m:List UInt8):bA l ++ bA m = bA (l ++ m) := bA_ext _ _ (by rw [bdata_app]; rfl)
theorem bA_drop (l:List UInt8) (k:Nat):(bA l).extract k l.length = bA (l.drop k):=by
 apply bA_ext
 rw [ByteArray.data_extract,Array.toList_extract]
 show (l.drop k).take (l.length - k) = l.drop k
 rw [List.take_of_length_le (by simp)]
theorem bA_take (l:List UInt8) (k:Nat):(bA l).extract 0 k = bA (l.take k):=by
 apply bA_ext
 rw [ByteArray.data_extract,Array.toList_extract]
 show (l.drop 0).take (k - 0) = l.take k
 simp
theorem pfx_eq (t l:List UInt8):(decide (t.length ≤ l.length) && ((bA (l.take t.length)).toList == (bA t).toList)) = t.isPrefixOf l:=by
 rw [bA_toList,bA_toList,Bool.eq_iff_iff]
 simp only [Bool.and_eq_true,decide_eq_true_eq,beq_iff_eq,List.isPrefixOf_iff_prefix]
 constructor
 ·rintro ⟨_, h⟩
  rw [← h]; exact List.take_prefix _ _
 ·intro h
  exact ⟨h.length_le,(List.prefix_iff_eq_take.1 h).symm⟩
theorem b8_nat {n:Int}(h:0 ≤ n ∧ n ≤ 255):((b8 n).toNat:Int) = n:=by
 unfold b8
 rw [UInt8.toNat_ofNat']
 have : n.toNat % 2 ^ 8 = n.toNat := Nat.mod_eq_of_lt (by omega)
 rw [this]; omega
theorem b8_ne (c:UInt8) (n:Int) (h:0 ≤ n ∧ n ≤ 255) (hn:n ≠ (c.toNat:Int)):(c == b8 n) = false:=by
 rw [beq_eq_false_iff_ne]
 intro e
 have := b8_nat h
 rw [← e] at this
 exact hn this.symm
def RL (r : List UInt8) : Prop := r = [] ∨ ∃ q,r = 125 :: q
def RS (r : List UInt8) : Prop := r = [] ∨ (∃ q,r = 125 :: q) ∨ ∃ q,r = 59 :: q
theorem RL.rs {r:List UInt8}(h:RL r):RS r := h.imp id .inl
theorem RL.jT {r:List UInt8}(h:RL r):∀ l,RS (jT l ++ r)
 | [] => by rw [jT_nil]; exact h.rs
 | s :: l => by rw [jT_cons]; exact .inr (.inr ⟨_,rfl⟩)
theorem RS.ne {r:List UInt8}(h:RS r) (c:UInt8) (t:List UInt8) (h1:c ≠ 125) (h2:c ≠ 59):(c :: t).isPrefixOf r = false:=by
 rcases h with rfl | ⟨q,rfl⟩ | ⟨q,rfl⟩
 ·rfl
 ·simp [List.isPrefixOf,h1]
 ·simp [List.isPrefixOf,h2]
theorem RL.semi {r:List UInt8}(h:RL r):([59]:List UInt8).isPrefixOf r = false:=by
 rcases h with rfl | ⟨q,rfl⟩
 ·rfl
 ·simp [List.isPrefixOf]
theorem simple_can {ts:List Int}{s:Stmt}(h:simpleF ts s = true):(s.op = 1 ∨ s.op = 2 ∨ s.op = 8 → s.y = 0) ∧ (s.op ≠ 1 → s.op ≠ 2 → s.n = 0):=by
 unfold simpleF at h
 dsimp only at h
 repeat' split at h
 all_goals (first|(simp only [decide_eq_true_eq] at h;omega)|(simp at h;done))
theorem tS_ne {ts:List Int}(ht:typesOk ts = true){d:Nat}:∀ {s:Stmt},okS ts d s = true → ∃ c r,tS s = c :: r ∧ c ≠ 125
 | .mk op x y n th el, h => by
  simp only [okS] at h
  split at h
  ·rename_i h9
   simp only [Bool.and_eq_true] at h
   obtain ⟨⟨_,_⟩,h⟩ := h
   have hb := simple_bd ht h
   simp only [Stmt.op,Stmt.x,Stmt.y,Stmt.n] at hb
   have hx : b8 (97 + x) ≠ 125 := fun e => by have := b8_nat (n := 97 + x) (by omega);rw [e] at this;simp at this;omega
   have h18 : op = 1 ∨ op = 2 ∨ op = 3 ∨ op = 4 ∨ op = 5 ∨ op = 6 ∨ op = 7 ∨ op = 8 := by omega
   rcases h18 with rfl|rfl|rfl|rfl|rfl|rfl|rfl|rfl
   ·rw [tS1]; exact ⟨_,_,rfl,hx⟩
   ·rw [tS2]; exact ⟨_,_,rfl,hx⟩
   ·rw [tS3]; exact ⟨_,_,rfl,hx⟩
   ·rw [tS4]; exact ⟨_,_,rfl,hx⟩
   ·rw [tS5]; exact ⟨_,_,rfl,hx⟩
   ·rw [tS6]; exact ⟨_,_,rfl,hx⟩
   ·rw [tS7]; exact ⟨_,_,rfl,by decide⟩
   ·rw [tS8]; exact ⟨_,_,rfl,by decide⟩
  ·rename_i h9
   by_cases e : op = 9
   ·subst e;rw [tS9]; exact ⟨_,_,rfl,by decide⟩
   ·obtain rfl : op = 10 := by omega
    rw [tS10]; exact ⟨_,_,rfl,by decide⟩
def tyB (t : Int) : UInt8 := if t = 1 then 105 else if t = 2 then 98 else if t = 3 then 114 else 109
def tP (p : Prg) : List UInt8 := p.types.map tyB ++ 58 :: tL p.body
theorem tyB_ne {t:Int}:tyB t ≠ 58 ∧ tyB t ≠ 10 ∧ tyB t ≠ 32:=by
 unfold tyB;repeat' split
 all_goals decide
theorem tP_size {p:Prg}(h:validF p = true):(tP p).length ≤ 337:=by
 unfold validF at h
 simp only [Bool.and_eq_true,decide_eq_true_eq] at h
 obtain ⟨⟨h1,_⟩,h2⟩ := h
 have := typesOk_len h1
 have h3 := textL_size p.body
 have h4 : (tL p.body).length = (textL p.body).size := rfl
 unfold tP
 rw [List.length_append,List.length_cons,List.length_map,h4]
 omega
open Go.Lib
theorem b8_10 {n:Int}(h:48 ≤ n ∧ n ≤ 255):(10:UInt8) ≠ b8 n := fun e => by
 have := b8_nat (n := n) (by omega)
 rw [← e] at this
 have h2 : ((10 : UInt8).toNat : Int) = 10 := rfl
 omega
theorem simp_no10 {ts:List Int}(ht:typesOk ts = true){o x y n:Int}(h:simpleF ts (.mk o x y n [] []) = true):(10:UInt8) ∉ tS (.mk o x y n [] []):=by
 have hb := simple_bd ht h
 have hc := simple_can h
 simp only [Stmt.op,Stmt.x,Stmt.y,Stmt.n] at hb hc
 have hx := b8_10 (n := 97 + x) (by omega)
 have hy := b8_10 (n := 97 + y) (by omega)
 have hn := b8_10 (n := 48 + n) (by
  by_cases e : o = 1 ∨ o = 2
  ·have := hb.2.2.2.2.2.2 e;omega
  ·have := hc.2 (fun q => e (.inl q)) (fun q => e (.inr q));omega)
 have h18 : o = 1 ∨ o = 2 ∨ o = 3 ∨ o = 4 ∨ o = 5 ∨ o = 6 ∨ o = 7 ∨ o = 8 := by omega
 rcases h18 with rfl|rfl|rfl|rfl|rfl|rfl|rfl|rfl
 ·rw [tS1]; simp [hx,hn]
 ·rw [tS2]; simp [hx,hn]
 ·rw [tS3]; simp [hx,hy]
 ·rw [tS4]; simp [hx,hy]
 ·rw [tS5]; simp [hx,hy]
 ·rw [tS6]; simp [hx,hy]
 ·rw [tS7]; simp [hx,hy]
 ·rw [tS8]; simp [hx]
mutual
theorem tS_no10 {ts:List Int}(ht:typesOk ts = true):∀ (s:Stmt) (d:Nat),okS ts d s = true → (10:UInt8) ∉ tS s
 | .mk op x y n th el, d, h => by
  simp only [okS] at h
  split at h
  ·rename_i h9
   simp only [Bool.and_eq_true,List.isEmpty_iff] at h
   obtain ⟨⟨rfl,rfl⟩,h⟩ := h
   exact simp_no10 ht h
  ·rename_i h9
   cases d with
   | zero => cases h
   | succ d =>
    simp only [Bool.and_eq_true] at h
    have h1 := tL_no10 ht th d h.1.2
    have h2 := tL_no10 ht el d h.2
    by_cases e : op = 9
    ·subst e;rw [tS9]; simp [h1,h2]
    ·obtain rfl : op = 10 := by omega
     rw [tS10]; simp [h1]
theorem tL_no10 {ts:List Int}(ht:typesOk ts = true):∀ (l:List Stmt) (d:Nat),okL ts d l = true → (10:UInt8) ∉ tL l
 | [],d,h => by rw [tL_nil]; simp
 | s :: l, d, h => by
  simp only [okL,Bool.and_eq_true] at h
  have h1 := tS_no10 ht s d h.1
  have h2 := jT_no10 ht l d h.2
  rw [tL_jT]; simp [h1,h2]
theorem jT_no10 {ts:List Int}(ht:typesOk ts = true):∀ (l:List Stmt) (d:Nat),okL ts d l = true → (10:UInt8) ∉ jT l
 | [],d,h => by rw [jT_nil]; simp
 | s :: l, d, h => by
  simp only [okL,Bool.and_eq_true] at h
  have h1 := tS_no10 ht s d h.1
  have h2 := jT_no10 ht l d h.2
  rw [jT_cons]; simp [h1,h2]
end
theorem tP_no10 {p:Prg}(h:validF p = true):(10:UInt8) ∉ tP p:=by
 unfold validF at h
 simp only [Bool.and_eq_true,decide_eq_true_eq] at h
 have h1 := tL_no10 h.1.1 p.body 4 h.1.2
 unfold tP
 simp only [List.mem_append,List.mem_cons,List.mem_map,not_or]
 exact ⟨fun ⟨t,_,e⟩ => (tyB_ne (t := t)).2.1 e,by decide,h1⟩
open Go.Lib
def dB (n : Int) : List UInt8 := (dec2F n).data.toList
theorem dB_len (n:Int):(dB n).length ≤ 2 := dec2F_size n
def numB (l : List Int) : List UInt8 := l.flatMap fun n => 32 :: dB n
theorem numB_len:∀ l:List Int,(numB l).length ≤ 3 * l.length
 | [] => by simp [numB]
 | n :: l => by
  have h1 := numB_len l
  have h2 := dB_len n
  have e : numB (n :: l) = (32 :: dB n) ++ numB l := rfl
  rw [e,List.length_append,List.length_cons,List.length_cons]; omega
theorem numB_app (l m:List Int):numB (l ++ m) = numB l ++ numB m := by simp [numB]
theorem numB_one (n:Int):numB [n] = 32 :: dB n := by simp [numB]
open Go.Lib
def isB (pts : List Pnt) (x : Iss) : List UInt8 := (issT pts x).data.toList
theorem isB_len (pts:List Pnt) (x:Iss):(isB pts x).length ≤ 50:=by
 show (issT pts x).size ≤ 50
 unfold issT
 have h1 := dec2F_size x.point
 have h2 := ptT_size pts[x.point.toNat]!
 have h3 := dec2F_size x.with_
 have h4 := ptT_size pts[x.with_.toNat]!
 split <;> simp only [ByteArray.size_append,bsz_lit,List.length_cons,List.length_nil,letF_size] <;> omega
def isT (pts : List Pnt) (L : List Iss) (n : Nat) : List UInt8 := (List.range n).flatMap fun k : Nat => isB pts L[k]! ++ [10]
theorem isT_0 (pts:List Pnt) (L:List Iss):isT pts L 0 = [] := rfl
theorem isT_succ (pts:List Pnt) (L:List Iss) (n:Nat):isT pts L (n + 1) = isT pts L n ++ (isB pts L[n]! ++ [10]):=by
 unfold isT;rw [List.range_succ,List.flatMap_append]; simp
theorem isT_len (pts:List Pnt) (L:List Iss):∀ n,n ≤ (isT pts L n).length ∧ (isT pts L n).length ≤ 51 * n
 | 0 => by simp [isT_0]
 | n + 1 => by
  have h1 := isT_len pts L n
  have h2 := isB_len pts L[n]!
  rw [isT_succ,List.length_append,List.length_append,List.length_singleton]; omega
theorem isT_ok (pts:List Pnt) (L:List Iss):([111,107,10] ++ (isT pts L L.length ++ [101,110,100,10]) == [111,107,10,101,110,100,10]) = L.isEmpty:=by
 cases L with
 | nil => rfl
 | cons x L =>
  have h := (isT_len pts (x :: L) (x :: L).length).1
  rw [List.length_cons] at h
  rw [beq_eq_false_iff_ne.2]
  ·rfl
  ·intro e
   have := congrArg List.length e
   rw [List.length_append,List.length_append,List.length_cons] at this
   simp only [List.length_cons,List.length_nil] at this
   omega
theorem RepS.mem {FI:Prg → List Iss → Prop}{R:Int → Prop}{q q':Prg}{l m m':List Int}(h:RepS FI q l m q' m'):q.body.length = l.length → (∀ z ∈ l,R z) → (∀ z ∈ m,R z) → ∀ z ∈ m',R z:=by
 induction h with
 | done _ => exact fun _ _ hm => hm
 | @step q q' l m m' x L k _ hk _ ih =>
  intro hl h1 h2
  have hlt := hk.lt
  have d1 := delL_len (k := k) (xs := q.body) hlt
  have d2 := delL_len (k := k) (xs := l) (by omega)
  refine ih (by show (delL k q.body).length = _; omega) (fun z hz => ?_) (fun z hz => ?_)
  ·unfold delL at hz
   rcases List.mem_append.1 hz with hz|hz
   ·exact h1 z (List.mem_of_mem_take hz)
   ·exact h1 z (List.mem_of_mem_drop hz)
  ·rcases List.mem_append.1 hz with hz | hz
   ·exact h2 z hz
   ·rw [List.mem_singleton.1 hz]; exact h1 _ (getB_mem l k (by omega))
theorem lfN_in {n:Nat}{m:List Int}{z:Int}(h:z ∈ lfN n m):0 ≤ z ∧ z < n:=by
 unfold lfN at h
 obtain ⟨i,hi,rfl⟩ := List.mem_map.1 h
 have := List.mem_range.1 (List.mem_filter.1 hi).1
 omega
theorem lfN_len0 (n:Nat):(lfN n []).length = n:=by
 unfold lfN;rw [List.filter_eq_self.2 (fun i _ => by simp)]; simp
end Go.AL
