/-
 A part of the proofs over this program: rules and contracts of its functions (the contracts).
-/
import Derived.Test.YtgkalkgplcdnkaaGreatDoorV2B04
set_option linter.unusedVariables false
set_option linter.unusedSimpArgs false
set_option maxHeartbeats 8000000
set_option maxRecDepth 4000
attribute [local irreducible] Go.AL.RW Go.AL.AW Go.AL.Stop
namespace Go.Proofs.YtgkalkgplcdnkaaGreatDoor
open Go.AL Go.RowKit
theorem u5 (ts:List Int) (bd:List AL.Stmt) (pts:List Pnt) (a:Nat) (w:Int) (ha:a < pts.length) (hl:pts.length ≤ 99) (hp:EL pts[a]!) (hw:0 ≤ w ∧ w ≤ 25):PC Tryz.prog 32 [aG ts bd pts,fC ⟨(a:Int),1,w⟩] (fun r => r = sv (mF pts ⟨(a:Int),1,w⟩)):=by
 have h1 := v8 (a : Int) (by omega) (by omega)
 have h2 := Ga pts[a]! hp
 have h3 := oA w hw.1 hw.2
 have z1 := fH (a : Int)
 have z2 := iY pts[a]!
 have z3 := dN w
 refine aC Tryz.func32 Tryz.ntmps32 ?_
 repeat' (first|(apply aF;first|(apply aA (k := 65);rfl;exact h1;(rfl);rfl)|(apply aA (k := 66);rfl;exact h2;exact Pur.pf;rfl)|(apply aA (k := 67);rfl;exact h3;(rfl);rfl)|(apply cX;rfl;rfl;(exact iP (by (simp only [ByteArray.size_append,e8,List.length_cons,List.length_nil,dN,dL,fG] <;> omega)));rfl))|refine aD ?_|refine bT ?_|fail)
 all_goals first
  | exact aE rfl ⟨rfl,rfl⟩
  | (exfalso;omega)
  | (exfalso;exact (by assumption : ¬ True) trivial)
theorem wI (ts:List Int) (bd:List AL.Stmt) (pts:List Pnt) (a l:Nat) (k:Int) (hk:k ≠ 1) (ha:a < pts.length) (hll:l < pts.length) (hl:pts.length ≤ 99) (hp:EL pts[a]!) (hq:EL pts[l]!):PC Tryz.prog 32 [aG ts bd pts,fC ⟨(a:Int),k,(l:Int)⟩] (fun r => r = sv (mF pts ⟨(a:Int),k,(l:Int)⟩)):=by
 have h1 := v8 (a : Int) (by omega) (by omega)
 have h2 := Ga pts[a]! hp
 have h3 := v8 (l : Int) (by omega) (by omega)
 have h4 := Ga pts[l]! hq
 have z1 := fH (a : Int)
 have z2 := iY pts[a]!
 have z3 := fH (l : Int)
 have z4 := iY pts[l]!
 have e : mF pts ⟨(a : Int),k,(l : Int)⟩ = ((((((dY (a : Int) ++ ⟨#[32]⟩) ++ nK pts[a]!) ++ ⟨#[58,32]⟩) ++ ⟨#[108,111,97,110,32,111,102,32]⟩) ++ dY (l : Int)) ++ ⟨#[32]⟩) ++ nK pts[l]! := if_neg hk
 rw [e]
 refine aC Tryz.func32 Tryz.ntmps32 ?_
 repeat' (first|(apply aF;first|(apply aA (k := 65);rfl;exact h1;(rfl);rfl)|(apply aA (k := 66);rfl;exact h2;exact Pur.pf;rfl)|(apply aA (k := 65);rfl;exact h3;(rfl);rfl)|(apply aA (k := 66);rfl;exact h4;exact Pur.pf;rfl)|(apply cX;rfl;rfl;(exact iP (by (simp only [ByteArray.size_append,e8,List.length_cons,List.length_nil,dN,dL,fG] <;> omega)));rfl))|refine aD ?_|(refine aK ?_ ?_ <;> intro hc hq <;> try (exfalso;omega))|refine bT ?_|fail)
 all_goals first
  | exact aE rfl ⟨rfl,rfl⟩
  | (exfalso;omega)
  | (exfalso;exact (by assumption : ¬ True) trivial)
theorem Is (p:Prg) (x:Iss) (L:List Iss) (hC:PC Tryz.prog 22 [bU p] (fun r => r = sl eV L)) (hl:L.length ≤ 1048576) (hx:x ∉ L):PC Tryz.prog 7 [bU p,fC x] (fun r => r = sv ⟨#[]⟩):=by
 refine aC Tryz.func7 Tryz.ntmps7 ?_
 repeat' (first|(apply aF;(apply aA (k := 22);rfl;exact hC;exact Pur.pf;rfl))|refine aD ?_|fail)
 refine aI (σ := Nat) [2,3,5] [0,1] (fun k => [(7,iv (k : Int)),(6,bv false)]) (fun k => []) (fun k => k ≤ L.length) (fun k => L.length - k) (0) (by omega) ?_
 intro k hk
 have heq : (L[k]!.point == x.point && (L[k]!.kind == x.kind && L[k]!.with_ == x.with_)) = o6 L[k]! x := rfl
 by_cases hkn : k < L.length
 ·have hb : o6 L[k]! x = false := by
   cases hb : o6 L[k]! x with
   | false => rfl
   | true => have := aZ L k hkn;rw [(jU _ _).1 hb] at this;exact absurd this hx
  rw [hb] at heq
  repeat' (first|(apply aF;(apply jS;rfl;rfl;(rw [heq]; rfl);rfl))|refine aD ?_|(refine aK ?_ ?_ <;> intro hc hq <;> try (exfalso;omega))|refine bT ?_|fail)
  all_goals first
   | (exfalso;exact (by assumption : ¬ True) trivial)
   | ((refine aY (k + 1) (Le.renA [(0, 0), (1, 1)]) ?_ ?_)
      ·omega
      ·omega)
 ·repeat' (first | refine aD ?_ | (refine aK ?_ ?_ <;> intro hc hq <;> try (exfalso; omega))|fail)
  all_goals first
   | exact aE rfl ⟨rfl,rfl⟩
   | (exfalso;omega)
   | (exfalso;exact (by assumption : ¬ True) trivial)
theorem IZ (p:Prg) (L:List Iss) (a:Nat) (w:Int) (hC:PC Tryz.prog 22 [bU p] (fun r => r = sl eV L)) (hl:L.length ≤ 1048576) (hs:aN p.body ≤ 1048576) (hx:(⟨(a:Int),1,w⟩:Iss) ∈ L) (ha:a < (aB p).length) (hpl:(aB p).length ≤ 99) (hp:EL (aB p)[a]!) (hw:0 ≤ w ∧ w ≤ 25) :
  PC Tryz.prog 7 [bU p,fC ⟨(a : Int),1,w⟩] (fun r => r = sv (mF (aB p) ⟨(a : Int),1,w⟩)) := by
 have hP := dD p hs
 have h1 := u6 (a : Int) (by omega) (by omega)
 have h2 := Fc (aB p)[a]! hp
 have h3 := qK w hw.1 hw.2
 have z1 := fH (a : Int)
 have z2 := iY (aB p)[a]!
 have z3 := dN w
 have e : mF (aB p) ⟨(a : Int),1,w⟩ = ((((dY (a : Int) ++ ⟨#[32]⟩) ++ nK (aB p)[a]!) ++ ⟨#[58,32]⟩) ++ ⟨#[110,111,32,118,97,108,117,101,32,111,102,32]⟩) ++ eI w := if_pos rfl
 rw [e]
 generalize hxx : (⟨(a : Int),1,w⟩ : Iss) = x at *
 have x1 : x.point = (a : Int) := by rw [← hxx]
 have x2 : x.kind = 1 := by rw [← hxx]
 have x3 : x.with_ = w := by rw [← hxx]
 refine aC Tryz.func7 Tryz.ntmps7 ?_
 repeat' (first|(apply aF;(apply aA (k := 22);rfl;exact hC;exact Pur.pf;rfl))|refine aD ?_|fail)
 refine aI (σ := Nat × Bool) [2,3,5] [0,1] (fun k => [(7,iv (k.1 : Int)),(6,bv k.2)]) (fun k => []) (fun k => k.1 ≤ L.length ∧ (k.2 = true ↔ ∃ j,j < k.1 ∧ o6 L[j]! x = true)) (fun k => L.length - k.1) (0,false) ⟨by omega,by simp⟩ ?_
 rintro ⟨k,b⟩ ⟨hk,hbb⟩
 dsimp only at hk hbb ⊢
 have heq : (L[k]!.point == x.point && (L[k]!.kind == x.kind && L[k]!.with_ == x.with_)) = o6 L[k]! x := rfl
 by_cases hkn : k < L.length
 ·cases b with
  | true =>
   repeat' (first|refine aD ?_|(refine aK ?_ ?_ <;> intro hc hq <;> try (exfalso;omega))|refine bT ?_|fail)
   all_goals first
    | (exfalso;exact (by assumption : ¬ True) trivial)
    | (exfalso;cases (by assumption : true = false);done)
    | ((refine aY (k + 1, true) (Le.renA [(0, 0), (1, 1)]) ?_ ?_)
       ·refine ⟨by dsimp only; omega, fun _ => ?_, fun _ => rfl⟩
        obtain ⟨j,h1,h2⟩ := hbb.1 rfl
        exact ⟨j,by dsimp only;omega,h2⟩
       ·dsimp only;omega)
  | false =>
   have hno : ∀ j, j < k → o6 L[j]! x = false := fun j hj => by
    cases hq : o6 L[j]! x with
    | false => rfl
    | true => exact absurd (hbb.2 ⟨j,hj,hq⟩) (by simp)
   cases hb : o6 L[k]! x with
   | true =>
    rw [hb] at heq
    repeat' (first|(apply aF;(apply jS;rfl;rfl;(rw [heq]; rfl);rfl))|refine aD ?_|(refine aK ?_ ?_ <;> intro hc hq <;> try (exfalso;omega))|refine bT ?_|fail)
    all_goals first
     | (exfalso;exact (by assumption : ¬ True) trivial)
     | ((refine aY (k + 1, true) (Le.renA [(0, 0), (1, 1)]) ?_ ?_)
        ·exact ⟨by dsimp only;omega,fun _ => ⟨k,by dsimp only;omega,hb⟩,fun _ => rfl⟩
        ·dsimp only;omega)
   | false =>
    rw [hb] at heq
    repeat' (first|(apply aF;(apply jS;rfl;rfl;(rw [heq]; rfl);rfl))|refine aD ?_|(refine aK ?_ ?_ <;> intro hc hq <;> try (exfalso;omega))|refine bT ?_|fail)
    all_goals first
     | (exfalso;exact (by assumption : ¬ True) trivial)
     | ((refine aY (k + 1, false) (Le.renA [(0, 0), (1, 1)]) ?_ ?_)
        ·refine ⟨by dsimp only; omega, Iff.intro (fun h => by cases h) (fun ⟨j, h1, h2⟩ => ?_)⟩
         dsimp only at h1
         by_cases e : j = k
         ·subst e;rw [hb] at h2;cases h2
         ·rw [hno j (by omega)] at h2;cases h2
        ·dsimp only;omega)
 ·have hb : b = true := by
   obtain ⟨j,hj,e⟩ := List.getElem_of_mem hx
   refine hbb.2 ⟨j,by omega,?_⟩
   rw [a8 L j hj,e]; exact (jU x x).2 rfl
  subst hb
  subst hxx
  repeat' (first|(apply aF;first|(apply aA (k := 23);rfl;exact hP;exact Pur.pf;rfl)|(apply aA (k := 24);rfl;exact h1;(rfl);rfl)|(apply aA (k := 25);rfl;exact h2;exact Pur.pf;rfl)|(apply aA (k := 26);rfl;exact h3;(rfl);rfl)|(apply cX;rfl;rfl;(exact iP (by (simp only [ByteArray.size_append,e8,List.length_cons,List.length_nil,dN,dL,fG] <;> omega)));rfl))|refine aD ?_|(refine aK ?_ ?_ <;> intro hc hq <;> try (exfalso;omega))|refine bT ?_|fail)
  all_goals first
   | exact aE rfl ⟨rfl,rfl⟩
   | (exfalso;omega)
   | (exfalso;exact (by assumption : ¬ True) trivial)
theorem H7 (p:Prg) (L:List Iss) (a l:Nat) (k:Int) (hk1:k ≠ 1) (hC:PC Tryz.prog 22 [bU p] (fun r => r = sl eV L)) (hl:L.length ≤ 1048576) (hs:aN p.body ≤ 1048576) (hx:(⟨(a:Int),k,(l:Int)⟩:Iss) ∈ L) (ha:a < (aB p).length) (hll:l < (aB p).length) (hpl:(aB p).length ≤ 99) (hp:EL (aB p)[a]!) (hq:EL (aB p)[l]!) :
  PC Tryz.prog 7 [bU p,fC ⟨(a : Int),k,(l : Int)⟩] (fun r => r = sv (mF (aB p) ⟨(a : Int),k,(l : Int)⟩)) := by
 have hP := dD p hs
 have h1 := u6 (a : Int) (by omega) (by omega)
 have h2 := Fc (aB p)[a]! hp
 have h3 := u6 (l : Int) (by omega) (by omega)
 have h4 := Fc (aB p)[l]! hq
 have z1 := fH (a : Int)
 have z2 := iY (aB p)[a]!
 have z3 := fH (l : Int)
 have z4 := iY (aB p)[l]!
 have e : mF (aB p) ⟨(a : Int),k,(l : Int)⟩ = ((((((dY (a : Int) ++ ⟨#[32]⟩) ++ nK (aB p)[a]!) ++ ⟨#[58,32]⟩) ++ ⟨#[108,111,97,110,32,111,102,32]⟩) ++ dY (l : Int)) ++ ⟨#[32]⟩) ++ nK (aB p)[l]! := if_neg hk1
 rw [e]
 generalize hxx : (⟨(a : Int),k,(l : Int)⟩ : Iss) = x at *
 clear e
 refine aC Tryz.func7 Tryz.ntmps7 ?_
 repeat' (first|(apply aF;(apply aA (k := 22);rfl;exact hC;exact Pur.pf;rfl))|refine aD ?_|fail)
 refine aI (σ := Nat × Bool) [2,3,5] [0,1] (fun q => [(7,iv (q.1 : Int)),(6,bv q.2)]) (fun q => []) (fun q => q.1 ≤ L.length ∧ (q.2 = true ↔ ∃ j,j < q.1 ∧ o6 L[j]! x = true)) (fun q => L.length - q.1) (0,false) ⟨by omega,by simp⟩ ?_
 rintro ⟨n,b⟩ ⟨hk,hbb⟩
 dsimp only at hk hbb ⊢
 have heq : (L[n]!.point == x.point && (L[n]!.kind == x.kind && L[n]!.with_ == x.with_)) = o6 L[n]! x := rfl
 by_cases hkn : n < L.length
 ·cases b with
  | true =>
   repeat' (first|refine aD ?_|(refine aK ?_ ?_ <;> intro hc hq <;> try (exfalso;omega))|refine bT ?_|fail)
   all_goals first
    | (exfalso;exact (by assumption : ¬ True) trivial)
    | (exfalso;cases (by assumption : true = false);done)
    | ((refine aY (n + 1, true) (Le.renA [(0, 0), (1, 1)]) ?_ ?_)
       ·refine ⟨by dsimp only; omega, fun _ => ?_, fun _ => rfl⟩
        obtain ⟨j,h1,h2⟩ := hbb.1 rfl
        exact ⟨j,by dsimp only;omega,h2⟩
       ·dsimp only;omega)
  | false =>
   have hno : ∀ j, j < n → o6 L[j]! x = false := fun j hj => by
    cases hq : o6 L[j]! x with
    | false => rfl
    | true => exact absurd (hbb.2 ⟨j,hj,hq⟩) (by simp)
   cases hb : o6 L[n]! x with
   | true =>
    rw [hb] at heq
    repeat' (first|(apply aF;(apply jS;rfl;rfl;(rw [heq]; rfl);rfl))|refine aD ?_|(refine aK ?_ ?_ <;> intro hc hq <;> try (exfalso;omega))|refine bT ?_|fail)
    all_goals first
     | (exfalso;exact (by assumption : ¬ True) trivial)
     | ((refine aY (n + 1, true) (Le.renA [(0, 0), (1, 1)]) ?_ ?_)
        ·exact ⟨by dsimp only;omega,fun _ => ⟨n,by dsimp only;omega,hb⟩,fun _ => rfl⟩
        ·dsimp only;omega)
   | false =>
    rw [hb] at heq
    repeat' (first|(apply aF;(apply jS;rfl;rfl;(rw [heq]; rfl);rfl))|refine aD ?_|(refine aK ?_ ?_ <;> intro hc hq <;> try (exfalso;omega))|refine bT ?_|fail)
    all_goals first
     | (exfalso;exact (by assumption : ¬ True) trivial)
     | ((refine aY (n + 1, false) (Le.renA [(0, 0), (1, 1)]) ?_ ?_)
        ·refine ⟨by dsimp only; omega, Iff.intro (fun h => by cases h) (fun ⟨j, h1, h2⟩ => ?_)⟩
         dsimp only at h1
         by_cases e : j = n
         ·subst e;rw [hb] at h2;cases h2
         ·rw [hno j (by omega)] at h2;cases h2
        ·dsimp only;omega)
 ·have hb : b = true := by
   obtain ⟨j,hj,e⟩ := List.getElem_of_mem hx
   refine hbb.2 ⟨j,by omega,?_⟩
   rw [a8 L j hj,e]; exact (jU x x).2 rfl
  subst hb
  subst hxx
  repeat' (first|(apply aF;first|(apply aA (k := 23);rfl;exact hP;exact Pur.pf;rfl)|(apply aA (k := 24);rfl;exact h1;(rfl);rfl)|(apply aA (k := 25);rfl;exact h2;exact Pur.pf;rfl)|(apply aA (k := 24);rfl;exact h3;(rfl);rfl)|(apply aA (k := 25);rfl;exact h4;exact Pur.pf;rfl)|(apply cX;rfl;rfl;(exact iP (by (simp only [ByteArray.size_append,e8,List.length_cons,List.length_nil,dN,dL,fG] <;> omega)));rfl))|refine aD ?_|(refine aK ?_ ?_ <;> intro hc hq <;> try (exfalso;omega))|refine bT ?_|fail)
  all_goals first
   | exact aE rfl ⟨rfl,rfl⟩
   | (exfalso;omega)
   | (exfalso;exact (by assumption : ¬ True) trivial)
theorem IN (p:Prg) (x:Iss) (hv:bH p = false) (hl:p.types.length ≤ 1048576) (hs:aN p.body ≤ 1048576):PC Tryz.prog 10 [bU p,fC x] (fun r => r = sv ⟨#[]⟩):=by
 have hg := c6 p hl hs
 rw [if_neg (by simp [hv])] at hg
 refine aC Tryz.func10 Tryz.ntmps10 ?_
 repeat' (first|(apply aF;(apply aA (k := 29);rfl;exact hg;exact Pur.pf;rfl))|refine aD ?_|refine bT ?_|fail)
 all_goals exact aE rfl ⟨rfl,rfl⟩
theorem IF (p:Prg) (f:Flows p.types (aB p)) (x:Iss) (hv:bH p = true) (hx:x ∉ f.iss) (hl:p.types.length ≤ 1048576) (hs:aN p.body ≤ 1048576):PC Tryz.prog 10 [bU p,fC x] (fun r => r = sv ⟨#[]⟩):=by
 have w := WG.of_valid hv
 have hg := c6 p hl hs
 rw [if_pos hv] at hg
 have hi := gQ p.types p.body (aB p) w f
 have hc := m5 f.iss x (Nat.le_trans (fX w f) (by decide))
 rw [decide_eq_false hx] at hc
 refine aC Tryz.func10 Tryz.ntmps10 ?_
 repeat' (first|(apply aF;first|(apply aA (k := 29);rfl;exact hg;exact Pur.pf;rfl)|(apply aA (k := 31);rfl;exact hi;exact Pur.pf;rfl)|(apply aA (k := 30);rfl;exact hc;exact Pur.pf;rfl))|refine aD ?_|refine bT ?_|fail)
 all_goals exact aE rfl ⟨rfl,rfl⟩
theorem HZ (p:Prg) (f:Flows p.types (aB p)) (x:Iss) (hv:bH p = true) (hx:x ∈ f.iss) (hl:p.types.length ≤ 1048576) (hs:aN p.body ≤ 1048576) (h:PC Tryz.prog 32 [aG p.types p.body (aB p),fC x] (fun r => r = sv (mF (aB p) x))):PC Tryz.prog 10 [bU p,fC x] (fun r => r = sv (mF (aB p) x)):=by
 have w := WG.of_valid hv
 have hg := c6 p hl hs
 rw [if_pos hv] at hg
 have hi := gQ p.types p.body (aB p) w f
 have hc := m5 f.iss x (Nat.le_trans (fX w f) (by decide))
 rw [decide_eq_true hx] at hc
 refine aC Tryz.func10 Tryz.ntmps10 ?_
 repeat' (first|(apply aF;first|(apply aA (k := 29);rfl;exact hg;exact Pur.pf;rfl)|(apply aA (k := 31);rfl;exact hi;exact Pur.pf;rfl)|(apply aA (k := 30);rfl;exact hc;exact Pur.pf;rfl)|(apply aA (k := 32);rfl;exact h;exact Pur.pf;rfl))|refine aD ?_|refine bT ?_|fail)
 all_goals exact aE rfl ⟨rfl,rfl⟩
theorem HS (p:Prg) (x:Iss) (f:Flows p.types (aB p)) (hv:bH p = true) (hl:p.types.length ≤ 1048576) (hs:aN p.body ≤ 1048576):∃ s:ByteArray,PC Tryz.prog 10 [bU p,fC x] (fun r => r = sv s) ∧ PC Tryz.prog 7 [bU p,fC x] (fun r => r = sv s) ∧
  (s.toList == (⟨#[]⟩ : ByteArray).toList) = !decide (x ∈ f.iss) := by
 have w := WG.of_valid hv
 have e : AF p f = f.iss := if_pos hv
 have hC := pJ p f hl hs
 rw [e] at hC
 have hLl : f.iss.length ≤ 1048576 := Nat.le_trans (fX w f) (by decide)
 by_cases hx : x ∈ f.iss
 ·obtain ⟨j, hj, hje⟩ := List.getElem_of_mem hx
  have hok := (Bb w f).1 j hj
  rw [a8 _ _ hj,hje] at hok
  obtain ⟨pt,k,wi⟩ := x
  obtain ⟨a,rfl⟩ := Int.eq_ofNat_of_zero_le hok.p0
  have ha : a < (aB p).length := by have := hok.p1;dsimp only at this;omega
  have hpl := w.pl
  have htl := w.tl
  have hpa := Ae hv ha
  refine ⟨mF (aB p) ⟨(a : Int),k,wi⟩,?_,?_,by rw [Iz,decide_eq_true hx]; rfl⟩
  ·refine HZ p f _ hv hx hl hs ?_
   rcases hok.k with ⟨h1,h2⟩ | ⟨h1,h2⟩
   ·dsimp only at h1 h2
    subst h1
    exact u5 p.types p.body (aB p) a wi ha (by omega) hpa (by omega)
   ·dsimp only at h1 h2
    obtain ⟨l,rfl⟩ := Int.eq_ofNat_of_zero_le h2.1
    exact wI p.types p.body (aB p) a l k (by omega) ha (by omega) (by omega) hpa (Ae hv (by omega))
  ·rcases hok.k with ⟨h1, h2⟩ | ⟨h1, h2⟩
   ·dsimp only at h1 h2
    subst h1
    exact IZ p f.iss a wi hC hLl hs hx ha (by omega) hpa (by omega)
   ·dsimp only at h1 h2
    obtain ⟨l,rfl⟩ := Int.eq_ofNat_of_zero_le h2.1
    exact H7 p f.iss a l k (by omega) hC hLl hs hx ha (by omega) (by omega) hpa (Ae hv (by omega))
 ·exact ⟨⟨#[]⟩,IF p f x hv hx hl hs,Is p x f.iss hC hLl hx,by rw [decide_eq_false hx]; simp⟩
theorem HY {s:ByteArray}{b:Bool}(h:(s.toList == (⟨#[]⟩:ByteArray).toList) = !b):Da .neq s ⟨#[]⟩ = some (.bool b) := by simp only [Da,h,Bool.not_not]
theorem B2 {W:List Nat}{k:Nat}(h:k ∈ W):(k:Int) ∈ eR W := List.mem_map.2 ⟨k,h,rfl⟩
def KX (p : Prg) (x : Iss) (way : List Int) : Prop := (∃ W,way = eR W ∧ Wok (aB p) W) ∧ x.point ∈ way ∧ (x.kind = 1 ∨ x.with_ ∈ way)
theorem Lp (p:Prg) (x:Iss) (hl:p.types.length ≤ 1048576) (hs:aN p.body ≤ 1048576):∃ (way:List Int) (ok:Bool) (s:ByteArray),
  PC Tryz.prog 15 [bU p,fC x] (fun r => r = .tup [sl cI way,bv ok]) ∧ PC Tryz.prog 16 [bU p,fC x] (fun r => r = .tup [sl cI way,bv ok]) ∧ PC Tryz.prog 10 [bU p,fC x] (fun r => r = sv s) ∧
  (s.toList == (⟨#[]⟩ : ByteArray).toList) = (!ok) ∧ way.length ≤ 1000 ∧ (ok = true → bH p = true ∧ KX p x way) := by
 cases hv : bH p
 ·exact ⟨[],false,⟨#[]⟩,Hv p x hv hl hs,Bl p [] x (tL p hv hl hs) (by simp) (by simp),IN p x hv hl hs,by simp,by simp,fun h => Bool.noConfusion h⟩
 ·have w := WG.of_valid hv
  obtain ⟨f⟩ := Flows.ex w
  have e : AF p f = f.iss := if_pos hv
  have hC := pJ p f hl hs
  rw [e] at hC
  have hLl : f.iss.length ≤ 1048576 := Nat.le_trans (fX w f) (by decide)
  obtain ⟨s,hf,_,he⟩ := HS p x f hv hl hs
  by_cases hx : x ∈ f.iss
  ·rw [decide_eq_true hx] at he
   obtain ⟨j,hj,hje⟩ := List.getElem_of_mem hx
   have hok := (Bb w f).1 j hj
   rw [a8 _ _ hj,hje] at hok
   obtain ⟨pt,k,wi⟩ := x
   obtain ⟨a,rfl⟩ := Int.eq_ofNat_of_zero_le hok.p0
   have ha : a < (aB p).length := by have := hok.p1;dsimp only at this;omega
   have hpl := w.pl
   by_cases hk : k = 1
   ·obtain ⟨A, hA⟩ := (oZ w.nx (Rch.of p) ha).2
    refine ⟨_,true,s,GV p f a k wi hk ha hv hx hl hs,IX p f.iss a k wi hC hLl hk ha hv hx hs,hf,he,?_,fun _ => ⟨rfl,⟨sF (aB p) a,rfl,(oZ w.nx (Rch.of p) ha).1,yK w.nx (Rch.of p) ha,?_⟩,B2 (by rw [hA]; simp),.inl hk⟩⟩
    ·have := mK w.nx w.p0 a;rw [b0]; omega
    ·have := mK w.nx w.p0 a;omega
   ·have hwi : 0 ≤ wi ∧ wi < (aB p).length := by
     rcases hok.k with h|h
     ·exact absurd h.1 hk
     ·exact h.2
    obtain ⟨l,rfl⟩ := Int.eq_ofNat_of_zero_le hwi.1
    have hll : l < (aB p).length := by omega
    obtain ⟨hla,u0,hu0,hau,huse⟩ := Hw w f hx hk
    have hpos := Gy (W := dJ (aB p) a) (U := dP p.types (aB p) f.Af l) (aB p).length ⟨u0,hu0,huse,(gB w.nx ha).2 hau⟩
    rcases mY (dJ (aB p) a) (dP p.types (aB p) f.Af l) (aB p).length with ⟨hu,_⟩ | ⟨u,hun,hu,_,_,h3⟩
    ·omega
    ·have h2' := (gB w.nx hll).2 hla
     obtain ⟨A,hA⟩ := (oZ w.nx (Rch.of p) hll).2
     obtain ⟨T,hT⟩ := (oY w.nx hll h2').2
     have h4 := mK w.nx w.p0 l
     have h5 := fO (x := a) w.nx hll
     have h6 := fO (x := u) w.nx ha
     refine ⟨_,true,s,IB p f a l k hk ha hll hv hx hl hs u hu hun h2' h3,HW p f f.iss a l k hC hLl hk ha hll hv hx hl hs u hu hun h2' h3,hf,he,?_,fun _ => ⟨rfl,⟨sF (aB p) l ++ (dJ (aB p) l a).drop 1 ++ (dJ (aB p) a u).drop 1,?_,EB w.nx (Rch.of p) ha hll h2' h3,?_,?_⟩,?_,.inr ?_⟩⟩
     ·rw [← b0] at h4 h5 h6
      simp only [List.length_append,List.length_drop]; omega
     ·unfold eR;simp only [List.map_append,List.map_drop]
     ·obtain ⟨T, hT⟩ := yK w.nx (Rch.of p) hll
      rw [hT]; exact ⟨_,rfl⟩
     ·simp only [List.length_append,List.length_drop]; omega
     ·have : (a : Int) ∈ (eR (dJ (aB p) l a)).drop 1 := by
       rw [hT]; unfold eR;simp
      exact List.mem_append.2 (.inl (List.mem_append.2 (.inr this)))
     ·have : (l : Int) ∈ eR (sF (aB p) l) := B2 (by rw [hA]; simp)
      exact List.mem_append.2 (.inl (List.mem_append.2 (.inl this)))
  ·rw [decide_eq_false hx] at he
   exact ⟨[],false,s,Hf p f x hv hx hl hs,Bl p f.iss x hC hLl hx,hf,he,by simp,fun h => Bool.noConfusion h⟩
theorem sK (bs:List UInt8):PC Tryz.prog 5 [sl cU bs] (fun r => r = bv true):=by
 rcases Nat.lt_or_ge 1048576 bs.length with hb|hb
 ·refine aC Tryz.func5 Tryz.ntmps5 ?_
  repeat' (first|refine aD ?_|(refine aK ?_ ?_ <;> intro hc hq <;> try (exfalso;omega))|fail)
  exact aE rfl ⟨rfl,rfl⟩
 refine aC Tryz.func5 Tryz.ntmps5 ?_
 repeat' (first|((with_reducible apply aF);first|(apply c7;rfl;rfl;rfl;rfl;rfl;(case hl => (simp;done));exact (rfl:_=[_,_,_]))|(apply gI (k := 14);rfl;exact CC bs hb;exact Pur.pf;rfl;(rintro _ ⟨q,x,rfl,hq1,hq2⟩ _)))|refine aD ?_|(refine aK ?_ ?_ <;> intro hc hq <;> try (exfalso;omega))|fail)
 obtain ⟨way,ok,s,h1,h2,h3,he,hlen,law⟩ := Lp q x (by omega) (by omega)
 have v1 := FK way (by omega)
 have hne := HY he
 cases ok
 ·repeat' (first | ((with_reducible apply aF); first | (apply cX (d := 35);rfl;rfl;exact hne;rfl) | (apply aA (k := 15);rfl;exact h1;exact Pur.pf;rfl) | (apply aA (k := 16);rfl;exact h2;exact Pur.pf;rfl) | (apply aA (k := 10);rfl;exact h3;exact Pur.pf;rfl) | (apply aA (k := 17);rfl;exact v1;exact Pur.pf;rfl)) | refine aD ?_|fail)
  all_goals exact aE rfl ⟨rfl,rfl⟩
 ·obtain ⟨hv, ⟨W, hW, hWk⟩, m1, m2⟩ := law rfl
  have h4 := JG q W hWk hv (by omega) (by omega)
  rw [← hW] at h4
  have b1 := GA way x.point (by omega)
  rw [decide_eq_true m1] at b1
  have b2 := GA way x.with_ (by omega)
  repeat' (first|((with_reducible apply aF);first|(apply cX (d := 35);rfl;rfl;exact hne;rfl)|(apply aA (k := 15);rfl;exact h1;exact Pur.pf;rfl)|(apply aA (k := 16);rfl;exact h2;exact Pur.pf;rfl)|(apply aA (k := 10);rfl;exact h3;exact Pur.pf;rfl)|(apply aA (k := 17);rfl;exact v1;exact Pur.pf;rfl)|(apply aA (k := 18);rfl;exact h4;exact Pur.pf;rfl)|(apply aA (k := 19);rfl;exact b1;exact Pur.pf;rfl)|(apply aA (k := 19);rfl;exact b2;exact Pur.pf;rfl))|refine aD ?_|(refine bR ?_ ?_ <;> intro hg hq <;> try (exfalso;omega))|fail)
  all_goals first
   | exact aE rfl ⟨congrArg bv (decide_eq_true (m2.resolve_left (by assumption))),rfl⟩
   | exact aE rfl ⟨rfl,rfl⟩
end Go.Proofs.YtgkalkgplcdnkaaGreatDoor
