/-
 A part of the proofs over this program: rules and contracts of its functions (the rules).
-/
import Derived.Test.YtgkalkgplcdnkaaGreatDoorV1A06
set_option linter.unusedVariables false
set_option linter.unusedSimpArgs false
namespace Go.AL
open Go.RowKit
def Dg (x : Pnt) : Prop := x.op = 9 ∨ x.op = 10 ∨ x.op = 11 ∨ (1 ≤ x.op ∧ x.op ≤ 8 ∧ 0 ≤ x.x ∧ x.x ≤ 5 ∧ 0 ≤ x.y ∧ x.y ≤ 5 ∧ 0 ≤ x.n ∧ x.n ≤ 9)
theorem Eo {ts:List Int}{s:Stmt}(h:c7 ts s = true):(0 ≤ s.n ∧ s.n ≤ 9):=by
 unfold c7 at h
 dsimp only at h
 repeat' split at h
 all_goals (first|(simp only [decide_eq_true_eq] at h;omega)|(cases h;done)|omega)
mutual
theorem IS {ts:List Int}(ht:aY ts = true):∀ (s:Stmt) (d b:Nat),pY ts d s = true → ∀ x ∈ uZ b s,Dg x
 | .mk op x y n th el, d, b, h => by
  simp only [pY] at h
  split at h
  ·rename_i hop
   simp only [Bool.and_eq_true] at h
   have hs := sF ht h.2
   have hn := Eo h.2
   simp only [Stmt.op,Stmt.x,Stmt.y,Stmt.n] at hs hn
   simp only [uZ,hop.1,hop.2,if_false,List.mem_singleton]
   rintro z rfl
   exact .inr (.inr (.inr ⟨hs.1,hs.2.1,hs.2.2.1,hs.2.2.2.1,hs.2.2.2.2.1,hs.2.2.2.2.2.1,hn.1,hn.2⟩))
  ·rename_i hop
   cases d with
   | zero => cases h
   | succ d =>
    simp only [Bool.and_eq_true,decide_eq_true_eq] at h
    obtain ⟨⟨⟨_,_⟩,h1⟩,h2⟩ := h
    by_cases h9 : op = 9
    ·subst h9
     simp only [uZ,if_true,List.mem_append,List.mem_singleton]
     rintro z (((rfl|hz)|rfl)|hz)
     ·exact .inl rfl
     ·exact oM ht th d (b + 1) h1 z hz
     ·exact .inr (.inl rfl)
     ·exact oM ht el d _ h2 z hz
    ·have h10 : op = 10 := by omega
     subst h10
     simp only [uZ,if_true,show ((10 : Int) = 9) = False by simp,if_false,List.mem_append,List.mem_singleton]
     rintro z ((rfl|hz)|rfl)
     ·exact .inr (.inl rfl)
     ·exact oM ht th d (b + 1) h1 z hz
     ·exact .inr (.inl rfl)
theorem oM {ts:List Int}(ht:aY ts = true):∀ (l:List Stmt) (d b:Nat),okL ts d l = true → ∀ x ∈ eT b l,Dg x
 | [],d,b,h => by simp [eT]
 | s :: l, d, b, h => by
  simp only [okL,Bool.and_eq_true] at h
  simp only [eT,List.mem_append]
  rintro x (hx|hx)
  ·exact IS ht s d b h.1 x hx
  ·exact oM ht l d (b + lX s) h.2 x hx
end
theorem yM {p:Prg}(h:b0 p = true){i:Nat}(hi:i < (aC p).length):Dg (aC p)[i]!:=by
 unfold b0 at h
 simp only [Bool.and_eq_true,decide_eq_true_eq] at h
 obtain ⟨⟨ht,hl⟩,hc⟩ := h
 have hm := bD _ i hi
 unfold aC at hm
 rw [List.mem_append,List.mem_singleton] at hm
 rcases hm with hm|hm
 ·exact oM ht p.body 4 0 hl _ hm
 ·unfold aC;rw [hm]; exact .inr (.inr (.inl rfl))
def dO (n : Int) : ByteArray := if n ≤ 9 then qQ n else k4 [48 + n / 10] ++ (k4 [48 + n % 10] ++ .empty)
theorem e8 (n:Int):(dO n).size ≤ 2:=by
 unfold dO;split
 ·rw [dE]; omega
 ·simp [k4,ByteArray.size_append]
def mN (x : Pnt) : ByteArray := if x.op = 11 then ⟨#[101,110,100]⟩ else if x.op = 9 then ⟨#[105,102]⟩ else if x.op = 10 then (if x.n = 1 then ⟨#[103,111]⟩ else ⟨#[108,111,111,112]⟩) else fI (.mk x.op x.x x.y x.n [] [])
theorem iF (x:Pnt):(mN x).size ≤ 11:=by
 have := k8 (.mk x.op x.x x.y x.n [] [])
 simp only [bF,aK] at this
 unfold mN
 repeat' split
 all_goals (first|(simp only [eM,List.length_cons,List.length_nil]; omega)|omega)
def mC (pts : List Pnt) (x : Iss) : ByteArray :=
 if x.kind = 1 then ((((dO x.point ++ ⟨#[32]⟩) ++ mN pts[x.point.toNat]!) ++ ⟨#[58,32]⟩) ++ ⟨#[110,111,32,118,97,108,117,101,32,111,102,32]⟩) ++ dV x.with_
 else ((((((dO x.point ++ ⟨#[32]⟩) ++ mN pts[x.point.toNat]!) ++ ⟨#[58,32]⟩) ++ ⟨#[108,111,97,110,32,111,102,32]⟩) ++ dO x.with_) ++ ⟨#[32]⟩) ++ mN pts[x.with_.toNat]!
theorem HK (s:ByteArray):∀ (k i:Nat) (r:List UInt8),s.size - i = k → (ByteArray.toList.loop s i r).length = k + r.length
 | 0,i,r,h => by rw [ByteArray.toList.loop,if_neg (by omega),List.length_reverse]; omega
 | k + 1, i, r, h => by
  rw [ByteArray.toList.loop,if_pos (by omega),HK s k (i + 1) _ (by omega),List.length_cons]; omega
theorem Br (s:ByteArray):s.toList.length = s.size:=by
 unfold ByteArray.toList;rw [HK s s.size 0 [] (by omega)]; simp
theorem G0 (pts:List Pnt) (x:Iss):((mC pts x).toList == (⟨#[]⟩:ByteArray).toList) = false:=by
 have h : 0 < (mC pts x).size := by
  unfold mC;split <;> simp only [ByteArray.size_append,eM,List.length_cons,List.length_nil] <;> omega
 rw [← Br] at h
 have e : (⟨#[]⟩ : ByteArray).toList = [] := by
  apply List.eq_nil_of_length_eq_zero;rw [Br]; rfl
 rw [e]
 cases hq : (mC pts x).toList with
 | nil => rw [hq] at h;simp at h
 | cons a l => rfl
end Go.AL
