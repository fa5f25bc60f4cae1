/-
 A part of the proofs over this program: rules and contracts of its functions (the contracts).
-/
import Derived.Test.YtgkalkgplcdnkaaGreatW3B03
set_option linter.unusedVariables false
set_option linter.unusedSimpArgs false
set_option maxHeartbeats 8000000
set_option maxRecDepth 4000
attribute [local irreducible] Go.AL.RW Go.AL.AW Go.AL.Stop
namespace Go.Proofs.YtgkalkgplcdnkaaGreat
open Go.AL Go.RowKit
theorem l3 {c left:Int}(h:c ≤ left):Dp c left = left - c := if_pos h
theorem jN {c left:Int}(h:¬ c ≤ left):Dp c left = -1 := if_neg h
theorem Eu (l:List Int) (left:Int) (h0:0 ≤ left) (h1:left ≤ 1048576) (hl:l.length ≤ 9223372036854775807):PC Tryz.prog 24 [sl cI l,iv left] (fun r => r = iv (Dp l.length left)):=by
 refine aC Tryz.func24 Tryz.ntmps24 ?_
 repeat' (first|refine aF ?_|(refine aU ?_ ?_ <;> intro hc hq <;> try (exfalso;omega))|fail)
 all_goals (refine aO rfl ⟨?_,rfl⟩; simp only [aQ]; first|rw [l3 (by omega)]|rw [jN (by omega)])
theorem CW (m:Nat) (ih:∀ l (left:Int),aI l < m → Dr l → 0 ≤ left → left ≤ 1048576 → PC Tryz.prog 25 [sl aB l,iv left] (fun r => r = iv (Dp (aI l) left))) (s:AL.Stmt) (left:Int) (hs:cP s ≤ m) (hln:C3 s) (h0:0 ≤ left) (h1:left ≤ 1048576) :
  PC Tryz.prog 73 [cA s,iv left] (fun r => r = iv (Dp (aI s.th + aI s.el : Nat) left)) := by
 have hct := dX s
 obtain ⟨l1,l2⟩ := HZ hln
 have c1 := ih s.th left (by omega) l1 h0 h1
 by_cases q1 : (aI s.th : Int) ≤ left
 ·rw [l3 q1] at c1
  have c2 := ih s.el (left - aI s.th) (by omega) l2 (by omega) (by omega)
  by_cases q2 : (aI s.el : Int) ≤ left - aI s.th
  ·rw [l3 q2] at c2
   rw [l3 (by omega)]
   refine aC Tryz.func73 Tryz.ntmps73 ?_
   repeat' (first|(apply aH;(apply aA (k := 25);rfl;(first|exact c1|exact c2);exact Pur.pf;rfl))|refine aF ?_|(refine aU ?_ ?_ <;> intro hc hq <;> try (exfalso;omega))|fail)
   all_goals first
    | (exfalso;omega)
    | (refine aO rfl ⟨?_,rfl⟩; simp only [aQ]; refine congrArg (fun z => AV.v (Value.int .i64 z)) ?_; omega)
  ·rw [jN q2] at c2
   rw [jN (by omega)]
   refine aC Tryz.func73 Tryz.ntmps73 ?_
   repeat' (first|(apply aH;(apply aA (k := 25);rfl;(first|exact c1|exact c2);exact Pur.pf;rfl))|refine aF ?_|(refine aU ?_ ?_ <;> intro hc hq <;> try (exfalso;omega))|fail)
   all_goals first
    | (exfalso;omega)
    | (refine aO rfl ⟨?_,rfl⟩; rfl)
 ·rw [jN q1] at c1
  rw [jN (by omega)]
  refine aC Tryz.func73 Tryz.ntmps73 ?_
  repeat' (first|(apply aH;(apply aA (k := 25);rfl;exact c1;exact Pur.pf;rfl))|refine aF ?_|fail)
  all_goals first
   | (exfalso;omega)
   | (refine aO rfl ⟨?_,rfl⟩; rfl)
theorem yY (m:Nat) (ih:∀ s (left:Int),cP s ≤ m → C3 s → 0 ≤ left → left ≤ 1048576 → PC Tryz.prog 73 [cA s,iv left] (fun r => r = iv (Dp (aI s.th + aI s.el:Nat) left))) (l:List AL.Stmt) (left:Int) (hs:aI l ≤ m) (hln:Dr l) (h0:0 ≤ left) (h1:left ≤ 1048576) :
  PC Tryz.prog 25 [sl aB l,iv left] (fun r => r = iv (Dp (aI l) left)) := by
 have hX := Et l
 have hl := hln.1
 by_cases q0 : (l.length : Int) ≤ left
 ·refine aC Tryz.func25 Tryz.ntmps25 ?_
  repeat' (first|refine aF ?_|(refine aU ?_ ?_ <;> intro hc hq <;> try (exfalso;omega))|fail)
  refine aL (σ := Nat × Int) [0] [] (fun k => [(5,iv (k.1 : Int)),(1,iv k.2)]) (fun k => []) (fun k => k.1 ≤ l.length ∧ 0 ≤ k.2 ∧ k.2 + l.length + lV (l.take k.1) = left) (fun k => l.length - k.1) (0,left - l.length) ⟨by omega,by dsimp only;omega,by simp [lV]⟩ ?_
  rintro ⟨k,z⟩ ⟨hk,hz0,hz⟩
  dsimp only at hk hz0 hz ⊢
  by_cases hkl : k < l.length
  ·have hck := cZ l k hkl
   have hsx := De hkl
   have hle := HQ l (k + 1)
   have c1 := ih l[k]! z (by omega) (Ia hln hkl) hz0 (by omega)
   by_cases q1 : ((aI l[k]!.th + aI l[k]!.el : Nat) : Int) ≤ z
   ·rw [l3 q1] at c1
    repeat' (first|(apply aH;(apply aA (k := 73);rfl;exact c1;exact Pur.pf;rfl))|refine aF ?_|(refine aU ?_ ?_ <;> intro hc hq <;> try (exfalso;omega))|fail)
    all_goals first
     | (exfalso;omega)
     | ((refine bS (k + 1, z - (aI l[k]!.th + aI l[k]!.el : Nat)) (Le.renA []) ?_ ?_)
        ·exact ⟨by dsimp only;omega,by dsimp only;omega,by dsimp only;rw [hsx]; omega⟩
        ·dsimp only;omega)
   ·rw [jN q1] at c1
    repeat' (first|(apply aH;(apply aA (k := 73);rfl;exact c1;exact Pur.pf;rfl))|refine aF ?_|(refine aU ?_ ?_ <;> intro hc hq <;> try (exfalso;omega))|fail)
    all_goals first
     | (exfalso;omega)
     | (refine aO rfl ⟨?_,rfl⟩; simp only [aQ]; rw [jN (by omega)])
  ·have hke : k = l.length := by omega
   subst hke
   rw [List.take_length] at hz
   repeat' (first|refine aF ?_|(refine aU ?_ ?_ <;> intro hc hq <;> try (exfalso;omega))|fail)
   refine aO rfl ⟨?_,rfl⟩; simp only [aQ]; rw [l3 (by omega)]
   refine congrArg (fun z => AV.v (Value.int .i64 z)) ?_; omega
 ·refine aC Tryz.func25 Tryz.ntmps25 ?_
  repeat' (first|refine aF ?_|(refine aU ?_ ?_ <;> intro hc hq <;> try (exfalso;omega))|fail)
  all_goals first
   | (exfalso;omega)
   | (refine aO rfl ⟨?_,rfl⟩; simp only [aQ]; rw [jN (by omega)])
theorem G0:∀ (m:Nat),(∀ s (left:Int),cP s ≤ m → C3 s → 0 ≤ left → left ≤ 1048576 → PC Tryz.prog 73 [cA s,iv left] (fun r => r = iv (Dp (aI s.th + aI s.el:Nat) left))) ∧
  (∀ l (left : Int),aI l ≤ m → Dr l → 0 ≤ left → left ≤ 1048576 → PC Tryz.prog 25 [sl aB l,iv left] (fun r => r = iv (Dp (aI l) left))) := by
 intro m
 induction m using Nat.strongRecOn with
 | ind m ih =>
  have h1 : ∀ s (left : Int), cP s ≤ m → C3 s → 0 ≤ left → left ≤ 1048576 → PC Tryz.prog 73 [cA s, iv left] (fun r => r = iv (Dp (aI s.th + aI s.el : Nat) left)) :=
   fun s left a1 a2 a3 a4 => CW m (fun l left' g1 g2 g3 g4 => (ih (aI l) g1).2 l left' (Nat.le_refl _) g2 g3 g4) s left a1 a2 a3 a4
  exact ⟨h1,fun l left g1 g2 g3 g4 => yY m h1 l left g1 g2 g3 g4⟩
theorem oU (p:Prg) (left:Int) (h0:0 ≤ left) (h1:left ≤ 1048576) (hl:p.types.length ≤ 9223372036854775807) (hln:Dr p.body):PC Tryz.prog 7 [bY p,iv left] (fun r => r = iv (Dp (p.types.length + aI p.body:Nat) left)):=by
 have c1 := Eu p.types left h0 h1 hl
 by_cases q1 : (p.types.length : Int) ≤ left
 ·rw [l3 q1] at c1
  have c2 := (G0 _).2 p.body (left - p.types.length) (Nat.le_refl _) hln (by omega) (by omega)
  by_cases q2 : (aI p.body : Int) ≤ left - p.types.length
  ·rw [l3 q2] at c2
   rw [l3 (by omega)]
   refine aC Tryz.func7 Tryz.ntmps7 ?_
   repeat' (first|(apply aH;first|(apply aA (k := 24);rfl;exact c1;exact Pur.pf;rfl)|(apply aA (k := 25);rfl;exact c2;exact Pur.pf;rfl))|refine aF ?_|(refine aU ?_ ?_ <;> intro hc hq <;> try (exfalso;omega))|fail)
   all_goals first
    | (exfalso;omega)
    | (refine aO rfl ⟨?_,rfl⟩; simp only [aQ]; refine congrArg (fun z => AV.v (Value.int .i64 z)) ?_; omega)
  ·rw [jN q2] at c2
   rw [jN (by omega)]
   refine aC Tryz.func7 Tryz.ntmps7 ?_
   repeat' (first|(apply aH;first|(apply aA (k := 24);rfl;exact c1;exact Pur.pf;rfl)|(apply aA (k := 25);rfl;exact c2;exact Pur.pf;rfl))|refine aF ?_|(refine aU ?_ ?_ <;> intro hc hq <;> try (exfalso;omega))|fail)
   all_goals first
    | (exfalso;omega)
    | (refine aO rfl ⟨?_,rfl⟩; rfl)
 ·rw [jN q1] at c1
  rw [jN (by omega)]
  refine aC Tryz.func7 Tryz.ntmps7 ?_
  repeat' (first|(apply aH;(apply aA (k := 24);rfl;exact c1;exact Pur.pf;rfl))|refine aF ?_|fail)
  all_goals first
   | (exfalso;omega)
   | (refine aO rfl ⟨?_,rfl⟩; rfl)
theorem IP {xs:List AL.Stmt}{k:Nat}(s:AL.Stmt) (hk:k < xs.length):iH (flat aB xs) (0 + k * 6) [iv s.op,iv s.x,iv s.y,iv s.n,sl aB s.th,sl aB s.el] = flat aB (xs.set k s) := gH hk (e8 s).symm
theorem DQ:∀ n:Nat,flat cN (List.replicate n 0) = flat cI (List.replicate n 0)
 | 0 => rfl
 | n + 1 => by rw [List.replicate_succ,List.replicate_succ]; show cN 0 ++ flat cN (List.replicate n 0) = cI 0 ++ flat cI (List.replicate n 0);rw [DQ n]; rfl
theorem Fe (l:List Int) (hl:l.length ≤ 1048576):PC Tryz.prog 32 [sl cI l] (fun r => r = sl cI l):=by
 refine aC Tryz.func32 Tryz.ntmps32 ?_
 repeat' (first|refine aF ?_|fail)
 rw [DQ]
 refine aL (σ := Nat × List Int) [0,3] [] (fun k => [(4,iv (k.1 : Int))]) (fun k => [(0,some (flat cI k.2))]) (fun k => k.1 ≤ l.length ∧ k.2.length = l.length ∧ (∀ j,j < k.1 → k.2[j]! = l[j]!)) (fun k => l.length - k.1) (0,List.replicate l.length 0) ⟨by omega,by simp,by omega⟩ ?_
 rintro ⟨k,u⟩ ⟨hk,hul,hu⟩
 dsimp only at hk hul hu ⊢
 repeat' (first|refine aF ?_|(refine aU ?_ ?_ <;> intro hc hq <;> try (exfalso;omega))|fail)
 ·(refine bS (k + 1, u.set k l[k]!) (Le.renA [(0, 0)]) ?_ ?_)
  ·refine ⟨by dsimp only; omega, by dsimp only; rw [List.length_set]; exact hul, fun j hj => ?_⟩
   dsimp only at hj ⊢
   rw [aW]
   by_cases e : k = j
   ·subst e;rw [if_pos ⟨rfl,by omega⟩]
   ·rw [if_neg (fun q => e q.1)]; exact hu j (by omega)
  ·dsimp only;omega
 ·refine bW (Le.frzD (d := 2) (i := 0) rfl rfl) ?_
  have e : u = l := bI hul fun j hj => hu j (by omega)
  subst e
  exact aO rfl ⟨rfl,(by (exact bD _ _))⟩
theorem Cv (m:Nat) (ih:∀ l,aI l < m → PC Tryz.prog 33 [sl aB l] (fun r => r = sl aB l)) (s:AL.Stmt) (hs:cP s ≤ m):PC Tryz.prog 77 [cA s] (fun r => r = cA s):=by
 have hct := dX s
 have c1 := ih s.th (by omega)
 have c2 := ih s.el (by omega)
 refine aC Tryz.func77 Tryz.ntmps77 ?_
 repeat' (first|(apply aH;(apply aA (k := 33);rfl;(first|exact c1|exact c2);exact Pur.pf;rfl))|refine aF ?_|fail)
 exact aO (l := [cA s]) rfl ⟨rfl,Pur.pf⟩
theorem zE (m:Nat) (hm:m ≤ 1048576) (ih:∀ s,cP s ≤ m → PC Tryz.prog 77 [cA s] (fun r => r = cA s)) (l:List AL.Stmt) (hs:aI l ≤ m):PC Tryz.prog 33 [sl aB l] (fun r => r = sl aB l):=by
 have hlen := bR l
 refine aC Tryz.func33 Tryz.ntmps33 ?_
 repeat' (first|refine aF ?_|fail)
 refine Jx (Le.zeroS (i := 0) (m := l.length) rfl) ?_
 refine aL (σ := Nat × List AL.Stmt) [0,3] [] (fun k => [(4,iv (k.1 : Int))]) (fun k => [(0,some (flat aB k.2))]) (fun k => k.1 ≤ l.length ∧ k.2.length = l.length ∧ (∀ j,j < k.1 → k.2[j]! = l[j]!)) (fun k => l.length - k.1) (0,List.replicate l.length J6) ⟨by omega,by simp,by omega⟩ ?_
 rintro ⟨k,u⟩ ⟨hk,hul,hu⟩
 dsimp only at hk hul hu ⊢
 by_cases hkl : k < l.length
 ·have hck := cZ l k hkl
  have c1 := ih l[k]! (by omega)
  repeat' (first|(apply aH;first|(apply aA (k := 77);rfl;exact c1;exact Pur.pf;rfl)|(apply cO;rfl;rfl;rfl;rfl;rfl;(rw [aK aB (e := 6)]; (show _ + 6 ≤ _);omega);exact IP _ (by omega)))|refine aF ?_|(refine aU ?_ ?_ <;> intro hc hq <;> try (exfalso;omega))|fail)
  (refine bS (k + 1,u.set k l[k]!) (Le.renA [(0,0)]) ?_ ?_)
  ·refine ⟨by dsimp only; omega, by dsimp only; rw [List.length_set]; exact hul, fun j hj => ?_⟩
   dsimp only at hj ⊢
   rw [aW]
   by_cases e : k = j
   ·subst e;rw [if_pos ⟨rfl,by omega⟩]
   ·rw [if_neg (fun q => e q.1)]; exact hu j (by omega)
  ·dsimp only;omega
 ·repeat' (first | refine aF ?_ | (refine aU ?_ ?_ <;> intro hc hq <;> try (exfalso; omega))|fail)
  refine bW (Le.frzD (d := 2) (i := 0) rfl rfl) ?_
  have e : u = l := bI hul fun j hj => hu j (by omega)
  subst e
  exact aO rfl ⟨rfl,(by (exact bD _ _))⟩
theorem GI:∀ (m:Nat),m ≤ 1048576 → (∀ s,cP s ≤ m → PC Tryz.prog 77 [cA s] (fun r => r = cA s)) ∧ (∀ l,aI l ≤ m → PC Tryz.prog 33 [sl aB l] (fun r => r = sl aB l)):=by
 intro m
 induction m using Nat.strongRecOn with
 | ind m ih =>
  intro hm
  have h1 : ∀ s,cP s ≤ m → PC Tryz.prog 77 [cA s] (fun r => r = cA s) := fun s a1 => Cv m (fun l g1 => (ih (aI l) g1 (by omega)).2 l (Nat.le_refl _)) s a1
  exact ⟨h1,fun l g1 => zE m hm h1 l g1⟩
theorem vU (p:Prg) (hl:p.types.length ≤ 1048576) (hs:aI p.body ≤ 1048576):PC Tryz.prog 9 [bY p] (fun r => r = bY p):=by
 have c1 := Fe p.types hl
 have c2 := (GI _ hs).2 p.body (Nat.le_refl _)
 refine aC Tryz.func9 Tryz.ntmps9 ?_
 repeat' (first|(apply aH;first|(apply aA (k := 32);rfl;exact c1;exact Pur.pf;rfl)|(apply aA (k := 33);rfl;exact c2;exact Pur.pf;rfl))|refine aF ?_|fail)
 exact aO (l := [bY p]) rfl ⟨rfl,Pur.pf⟩
theorem FM (L:List Int) (hl:L.length ≤ 1048576):PC Tryz.prog 11 [sl cI L,sl cI L] (fun r => r = bv true):=by
 refine aC Tryz.func11 Tryz.ntmps11 ?_
 repeat' (first|refine aF ?_|(refine aU ?_ ?_ <;> intro hc hq <;> try (exfalso;omega))|fail)
 ·exact (hq trivial).elim
 refine aL (σ := Nat) [0,1] [] (fun k => [(5,iv (k : Int))]) (fun k => []) (fun k => k ≤ L.length) (fun k => L.length - k) (0) (by omega) ?_
 rintro k hk
 repeat' (first|refine aF ?_|(refine aU ?_ ?_ <;> intro hc hq <;> try (exfalso;omega))|refine dC ?_|fail)
 ·exfalso
  simp at hq
 ·(refine bS (k + 1) (Le.renA []) ?_ ?_)
  ·omega
  ·omega
 ·exact aO rfl ⟨rfl,rfl⟩
theorem CO (m:Nat) (ih:∀ l,aI l < m → PC Tryz.prog 38 [sl aB l,sl aB l] (fun r => r = bv true)) (s:AL.Stmt) (hs:cP s ≤ m):PC Tryz.prog 83 [cA s,cA s] (fun r => r = bv true):=by
 have hct := dX s
 have c1 := ih s.th (by omega)
 have c2 := ih s.el (by omega)
 refine aC Tryz.func83 Tryz.ntmps83 ?_
 repeat' (first|(apply aH;(apply aA (k := 38);rfl;(first|exact c1|exact c2);exact Pur.pf;rfl))|refine aF ?_|(refine aU ?_ ?_ <;> intro hc hq <;> try (exfalso;omega))|fail)
 all_goals first
  | (exfalso;exact (by assumption : ¬ True) trivial)
  | exact aO rfl ⟨rfl,rfl⟩
theorem Ak (m:Nat) (hm:m ≤ 1048576) (ih:∀ s,cP s ≤ m → PC Tryz.prog 83 [cA s,cA s] (fun r => r = bv true)) (l:List AL.Stmt) (hs:aI l ≤ m):PC Tryz.prog 38 [sl aB l,sl aB l] (fun r => r = bv true):=by
 have hlen := bR l
 refine aC Tryz.func38 Tryz.ntmps38 ?_
 repeat' (first|refine aF ?_|(refine aU ?_ ?_ <;> intro hc hq <;> try (exfalso;omega))|fail)
 ·exact (hq trivial).elim
 refine aL (σ := Nat) [0,1] [] (fun k => [(5,iv (k : Int))]) (fun k => []) (fun k => k ≤ l.length) (fun k => l.length - k) (0) (by omega) ?_
 rintro k hk
 by_cases hkl : k < l.length
 ·have hck := cZ l k hkl
  have c1 := ih l[k]! (by omega)
  repeat' (first|(apply aH;(apply aA (k := 83);rfl;exact c1;exact Pur.pf;rfl))|refine aF ?_|(refine aU ?_ ?_ <;> intro hc hq <;> try (exfalso;omega))|refine dC ?_|fail)
  all_goals first
   | (exfalso;exact (by assumption : ¬ True) trivial)
   | ((refine bS (k + 1) (Le.renA []) ?_ ?_)
      ·omega
      ·omega)
 ·repeat' (first | refine aF ?_ | (refine aU ?_ ?_ <;> intro hc hq <;> try (exfalso; omega))|fail)
  exact aO rfl ⟨rfl,rfl⟩
theorem HP:∀ (m:Nat),m ≤ 1048576 → (∀ s,cP s ≤ m → PC Tryz.prog 83 [cA s,cA s] (fun r => r = bv true)) ∧ (∀ l,aI l ≤ m → PC Tryz.prog 38 [sl aB l,sl aB l] (fun r => r = bv true)):=by
 intro m
 induction m using Nat.strongRecOn with
 | ind m ih =>
  intro hm
  have h1 : ∀ s,cP s ≤ m → PC Tryz.prog 83 [cA s,cA s] (fun r => r = bv true) := fun s a1 => CO m (fun l g1 => (ih (aI l) g1 (by omega)).2 l (Nat.le_refl _)) s a1
  exact ⟨h1,fun l g1 => Ak m hm h1 l g1⟩
theorem oR (p:Prg) (hl:p.types.length ≤ 1048576) (hs:aI p.body ≤ 1048576):PC Tryz.prog 12 [bY p,bY p] (fun r => r = bv true):=by
 have c1 := FM p.types hl
 have c2 := (HP _ hs).2 p.body (Nat.le_refl _)
 refine aC Tryz.func12 Tryz.ntmps12 ?_
 repeat' (first|(apply aH;first|(apply aA (k := 11);rfl;exact c1;exact Pur.pf;rfl)|(apply aA (k := 38);rfl;exact c2;exact Pur.pf;rfl))|refine aF ?_|fail)
 all_goals first
  | (exfalso;exact (by assumption : ¬ True) trivial)
  | exact aO rfl ⟨rfl,rfl⟩
end Go.Proofs.YtgkalkgplcdnkaaGreat
namespace Go.Proofs.YtgkalkgplcdnkaaGreat
open Go.AL Go.ChangeShapes Go.WideShapes Go.ChangeAt Go.RowKit
theorem vW {w:World}{b:Nat}:∀ (cs:List AV) (l:List Value) (o:Nat),RdL w (fun _ => False) (fun _ => none) cs l → (∀ j,j < l.length → w.cell? ⟨b,o + j,none⟩ = l[j]?) → RdC w (fun _ => False) (fun _ => none) cs b o
 | [],_,_,_,_ => by simp only [RdC]
 | c :: cs, l, o, h, hc => by
  simp only [RdL] at h
  obtain ⟨x,l',rfl,h1,h2,h3⟩ := h
  simp only [RdC]
  refine ⟨⟨x,by simpa using hc 0 (by simp),h1,h2⟩,vW cs l' (o + 1) h3 fun j hj => ?_⟩
  have := hc (j + 1) (by simpa using hj)
  rw [show o + 1 + j = o + (j + 1) from by omega,this]; rfl
theorem xF {w:World}{bad:Nat → Prop}{ι:Pl}{b:Nat}:∀ (cs ds:List AV) (o:Nat),RdC w bad ι cs b o → RdC w bad ι ds b (o + cs.length) → RdC w bad ι (cs ++ ds) b o
 | [],ds,o,_,h => by simpa using h
 | c :: cs, ds, o, h, h2 => by
  simp only [List.cons_append,RdC] at h ⊢
  exact ⟨h.1,xF cs ds (o + 1) h.2 (by rw [List.length_cons] at h2;rwa [show o + 1 + cs.length = o + (cs.length + 1) from by omega])⟩
theorem RdC_stmts {w:World}{b:Nat}:∀ (l:List AL.Stmt) (o:Nat),(∀ i,i < l.length → RdC w (fun _ => False) (fun _ => none) (aB l[i]!) b (o + i * 6)) → RdC w (fun _ => False) (fun _ => none) (flat aB l) b o
 | [],_,_ => by simp only [flat,List.flatMap_nil,RdC]
 | s :: l, o, h => by
  have e : flat aB (s :: l) = aB s ++ flat aB l := by simp only [flat,List.flatMap_cons]
  rw [e]
  have h0 := h 0 (by simp)
  refine xF _ _ o (by simpa using h0) (RdC_stmts l _ fun i hi => ?_)
  have hi' := h (i + 1) (by simpa using hi)
  have e6 : (aB s).length = 6 := by rw [e8]; rfl
  rw [e6,show o + 6 + i * 6 = o + (i + 1) * 6 from by omega]
  simpa using hi'
theorem xA {w:World}{b:Nat}:∀ (zs:List Int) (o:Nat),(∀ j,j < zs.length → w.cell? ⟨b,o + j,none⟩ = some (.int .i64 zs[j]!)) → RdC w (fun _ => False) (fun _ => none) (flat cI zs) b o
 | [],_,_ => by simp only [flat,List.flatMap_nil,RdC]
 | x :: zs, o, h => by
  have h0 := h 0 (by simp)
  have e : flat cI (x :: zs) = iv x :: flat cI zs := rfl
  rw [e]
  simp only [RdC]
  refine ⟨⟨.int .i64 x,by simpa using h0,rfl,by simp only [Rd]⟩,xA zs (o + 1) fun j hj => ?_⟩
  have := h (j + 1) (by simpa using hj)
  rw [show o + 1 + j = o + (j + 1) from by omega]
  simpa using this
theorem zB:Tryz.prog.cellsOf 3 = 1 := by kernel_rfl
theorem Bz:Tryz.prog.cellsOf 23 = 1 := by kernel_rfl
theorem Hu:Tryz.prog.cellsOf 22 = 1 := by kernel_rfl
theorem wG:Tryz.prog.cellsOf 100 = 6 := by kernel_rfl
theorem GL:Tryz.prog.cellsOf 25 = 2 := by kernel_rfl
theorem Hi:Tryz.prog.cellsOf 44 = 3 := by kernel_rfl
theorem xG {α:Type}[Inhabited α] {P:Nat → α → Prop}(n:Nat) (h:∀ i,i < n → ∃ x,P i x):∃ l:List α,l.length = n ∧ ∀ i,i < n → P i l[i]!:=by
 induction n with
 | zero => exact ⟨[],rfl,by omega⟩
 | succ n ih =>
  obtain ⟨l,h1,h2⟩ := ih fun i hi => h i (by omega)
  obtain ⟨x,hx⟩ := h n (by omega)
  refine ⟨l ++ [x],by simp [h1],fun i hi => ?_⟩
  by_cases e : i < n
  ·rw [bF _ _ (by simp;omega),List.getElem_append_left (by omega),← bF l i (by omega)]; exact h2 i e
  ·have : i = n := by omega
   subst this
   rw [bF _ _ (by simp;omega),List.getElem_append_right (by omega)]
   simp only [h1,Nat.sub_self,List.getElem_cons_zero]; exact hx
section
variable {H : Type} {enc : TypeId × Value → H} {W : World}
theorem GO {fuel:Nat}{v:Value}{x:DataW H × List MemPlace}(hf:DataW.trod enc Tryz.prog W 0 (fun _ => true) true fuel 22 [v] = some x):∃ l:List Int,l.length ≤ 9223372036854775807 ∧ Rd W (fun _ => False) (fun _ => none) (sl cI l) v ∧ v.oneCell' = true:=by
 rcases open_ints Tryz.underlying22 Tryz.underlying3 zB hf with ⟨hcs,hx⟩ | ⟨a,len,cap,zs,hcs,_,hl,hm,hz,hx,hcell,hwz⟩
 ·simp at hcs
  subst hcs
  refine ⟨[],by decide,?_,rfl⟩
  simp only [Rd]
  exact ⟨none,0,rfl,.inl rfl⟩
 ·simp at hcs
  subst hcs
  simp only [if_true] at hz
  have hlen : (zs.take len).length = len := by simp;omega
  have hmx : maxLen = 9223372036854775807 := by decide
  refine ⟨zs.take len,by omega,?_,rfl⟩
  simp only [Rd]
  refine ⟨some a,cap,by rw [hlen],?_⟩
  by_cases h00 : len = 0
  ·exact .inl (by rw [hlen]; exact h00)
  ·obtain ⟨b, off, spot⟩ := a
   have hspot : spot = none := by simpa [Addr.add] using World.cell?_spot (hcell 0 (by omega))
   subst hspot
   refine .inr ⟨b,off,by rw [hlen]; exact hl,rfl,.inr ⟨fun h => h,xA _ _ fun j hj => ?_⟩⟩
   rw [hlen] at hj
   have hcj := hcell j (by omega)
   rw [Addr.add_lit] at hcj
   rw [hcj,bF _ _ (by rw [hlen]; exact hj),List.getElem_take]
   simp [List.getD,List.getElem?_eq_getElem (show j < zs.length by omega)]
theorem Ky {cs:List Value}(h:cs.length = 6):∃ a b c d e f,cs = [a,b,c,d,e,f]:=by
 match cs,h with
 | [a,b,c,d,e,f],_ => exact ⟨a,b,c,d,e,f,rfl⟩
theorem DS:∀ fuel:Nat,(∀ cs x,DataW.trod enc Tryz.prog W 0 (fun _ => true) true fuel 100 cs = some x → ∃ s:AL.Stmt,C3 s ∧ cs.length = 6 ∧ RdL W (fun _ => False) (fun _ => none) (aB s) cs) ∧
  (∀ v x,DataW.trod enc Tryz.prog W 0 (fun _ => true) true fuel 23 [v] = some x → ∃ l : List AL.Stmt,Dr l ∧ Rd W (fun _ => False) (fun _ => none) (sl aB l) v ∧ v.oneCell' = true) := by
 intro fuel
 induction fuel using Nat.strongRecOn with
 | ind fuel ih =>
  constructor
  ·intro cs x h
   obtain ⟨xs,n,hn,_,hl,hlen,hf⟩ := DataW.trod_struct Tryz.underlying100 h
   rw [wG] at hl
   obtain ⟨v0,v1,v2,v3,v4,v5,rfl⟩ := Ky hl
   have f0 := hf 0 _ rfl
   have f1 := hf 1 _ rfl
   have f2 := hf 2 _ rfl
   have f3 := hf 3 _ rfl
   have f4 := hf 4 _ rfl
   have f5 := hf 5 _ rfl
   have g : ∀ i,i < 6 → ∃ y,xs[i]? = some y := fun i hi => ⟨xs[i]'(by rw [hlen]; exact hi),List.getElem?_eq_getElem (by rw [hlen]; exact hi)⟩
   obtain ⟨y0,e0⟩ := g 0 (by decide)
   obtain ⟨y1,e1⟩ := g 1 (by decide)
   obtain ⟨y2,e2⟩ := g 2 (by decide)
   obtain ⟨y3,e3⟩ := g 3 (by decide)
   obtain ⟨y4,e4⟩ := g 4 (by decide)
   obtain ⟨y5,e5⟩ := g 5 (by decide)
   rw [e0] at f0
   rw [e1] at f1
   rw [e2] at f2
   rw [e3] at f3
   rw [e4] at f4
   rw [e5] at f5
   change DataW.trod _ _ _ _ _ _ n 3 (([v0,v1,v2,v3,v4,v5].drop 0).take (Tryz.prog.cellsOf 3)) = _ at f0
   change DataW.trod _ _ _ _ _ _ n 3 (([v0,v1,v2,v3,v4,v5].drop 1).take (Tryz.prog.cellsOf 3)) = _ at f1
   change DataW.trod _ _ _ _ _ _ n 3 (([v0,v1,v2,v3,v4,v5].drop 2).take (Tryz.prog.cellsOf 3)) = _ at f2
   change DataW.trod _ _ _ _ _ _ n 3 (([v0,v1,v2,v3,v4,v5].drop 3).take (Tryz.prog.cellsOf 3)) = _ at f3
   change DataW.trod _ _ _ _ _ _ n 23 (([v0,v1,v2,v3,v4,v5].drop 4).take (Tryz.prog.cellsOf 23)) = _ at f4
   change DataW.trod _ _ _ _ _ _ n 23 (([v0,v1,v2,v3,v4,v5].drop 5).take (Tryz.prog.cellsOf 23)) = _ at f5
   rw [zB] at f0 f1 f2 f3
   rw [Bz] at f4 f5
   obtain ⟨n0,q0,_,_⟩ := DataW.trod_int Tryz.underlying3 f0
   obtain ⟨n1,q1,_,_⟩ := DataW.trod_int Tryz.underlying3 f1
   obtain ⟨n2,q2,_,_⟩ := DataW.trod_int Tryz.underlying3 f2
   obtain ⟨n3,q3,_,_⟩ := DataW.trod_int Tryz.underlying3 f3
   have ih' := ih n (by omega)
   obtain ⟨l4,a4,b4,c4⟩ := ih'.2 v4 _ f4
   obtain ⟨l5,a5,b5,c5⟩ := ih'.2 v5 _ f5
   simp at q0 q1 q2 q3
   subst q0 q1 q2 q3
   refine ⟨.mk n0 n1 n2 n3 l4 l5,by simp only [C3]; exact ⟨a4,a5⟩,rfl,?_⟩
   rw [e8]
   simp only [RdL]
   exact ⟨_,_,rfl,rfl,(by simp only [Rd]; rfl),_,_,rfl,rfl,(by simp only [Rd]; rfl),_,_,rfl,rfl,(by simp only [Rd]; rfl),_,_,rfl,rfl,(by simp only [Rd]; rfl),_,_,rfl,c4,b4,_,_,rfl,c5,b5,rfl⟩
  ·intro v x h
   rcases DataW.trod_slice Tryz.underlying23 h with ⟨hcs,_⟩ | ⟨a,len,cap,elems,rest,n,hn,hcs,_,hb,hl,hm,hlen,hel,hsp,hns⟩
   ·simp at hcs
    subst hcs
    refine ⟨[],⟨by decide,by simp only [F2]⟩,?_,rfl⟩
    simp only [Rd]
    exact ⟨none,0,rfl,.inl rfl⟩
   ·simp at hcs
    subst hcs
    rw [wG] at hel
    have hmx : maxLen = 9223372036854775807 := by decide
    have key : ∀ i, i < len → ∃ s : AL.Stmt, C3 s ∧ ∃ cs : List Value, cs.length = 6 ∧ RdL W (fun _ => False) (fun _ => none) (aB s) cs ∧ ∀ j, j < 6 → W.cell? ((a.add (i * 6)).add j) = cs[j]? := fun i hi => by
     have h1 := hel i hi
     rw [List.getElem?_eq_getElem (by omega),Option.bind_eq_some_iff] at h1
     obtain ⟨cs,h2,h3⟩ := h1
     obtain ⟨s,s1,s2,s3⟩ := (ih n (by omega)).1 cs _ h3
     exact ⟨s,s1,cs,s2,s3,(World.cells?_some h2).2.2⟩
    obtain ⟨l,k1,k2⟩ := xG len key
    refine ⟨l,⟨by omega,Dz fun s hs => ?_⟩,?_,rfl⟩
    ·obtain ⟨i, hi, e⟩ := List.getElem_of_mem hs
     have := (k2 i (by omega)).1
     rw [bF _ _ hi,e] at this;exact this
    ·simp only [Rd]
     refine ⟨some a,cap,by rw [k1],?_⟩
     by_cases h00 : len = 0
     ·exact .inl (by rw [k1]; exact h00)
     ·obtain ⟨b, off, spot⟩ := a
      have hspot : spot = none := by
       obtain ⟨_,cs,c1,_,c3⟩ := k2 0 (by omega)
       have := c3 0 (by decide)
       rw [List.getElem?_eq_getElem (by omega)] at this
       simpa [Addr.add] using World.cell?_spot this
      subst hspot
      refine .inr ⟨b,off,by rw [k1]; exact hl,rfl,.inr ⟨fun h => h,RdC_stmts _ _ fun i hi => ?_⟩⟩
      rw [k1] at hi
      obtain ⟨_,cs,c1,c2,c3⟩ := k2 i hi
      refine vW _ cs _ c2 fun j hj => ?_
      have := c3 j (by omega)
      rw [Addr.add_lit,Addr.add_lit] at this
      exact this
theorem GY {base:Nat}{v0:Value}{d0:DataW H}{p:List MemPlace}(hval:Value.okWide Tryz.prog W .any base 25 v0) (h0:DataW.Trod enc Tryz.prog W 0 (fun _ => true) true 25 v0 d0 p) :
  ∃ q : Prg,q.types.length ≤ 9223372036854775807 ∧ Dr q.body ∧ Rd W (fun _ => False) (fun _ => none) (bY q) v0 := by
 obtain ⟨cs,rfl,hsz⟩ := okWide_struct Tryz.underlying25 hval
 obtain ⟨fuel,hf⟩ := h0
 obtain ⟨xs,n,hn,_,hl,hlen,hg⟩ := DataW.trod_struct Tryz.underlying25 hf
 have f0 := hg 0 _ rfl
 have f1 := hg 1 _ rfl
 have g : ∀ i,i < 2 → ∃ y,xs[i]? = some y := fun i hi => ⟨xs[i]'(by rw [hlen]; exact hi),List.getElem?_eq_getElem (by rw [hlen]; exact hi)⟩
 obtain ⟨y0,e0⟩ := g 0 (by decide)
 obtain ⟨y1,e1⟩ := g 1 (by decide)
 rw [e0] at f0
 rw [e1] at f1
 change DataW.trod _ _ _ _ _ _ n 22 (((Value.agg cs).cells.toList.drop 0).take (Tryz.prog.cellsOf 22)) = _ at f0
 change DataW.trod _ _ _ _ _ _ n 23 (((Value.agg cs).cells.toList.drop 1).take (Tryz.prog.cellsOf 23)) = _ at f1
 rw [Hu] at f0
 rw [Bz] at f1
 have hcs : (Value.agg cs).cells.toList = cs.toList := rfl
 rw [GL] at hl
 rw [hcs] at hl f0 f1
 obtain ⟨a, b, hab⟩ : ∃ a b, cs.toList = [a, b] := by
  match h : cs.toList,hl with
  | [a,b],_ => exact ⟨a,b,rfl⟩
 rw [hab] at f0 f1
 obtain ⟨ts,t1,t2,t3⟩ := GO f0
 obtain ⟨body,b1,b2,b3⟩ := (DS n).2 _ _ f1
 refine ⟨⟨ts,body⟩,t1,b1,?_⟩
 simp only [Rd]
 refine ⟨[a,b],by rw [← hab],?_⟩
 simp only [RdL]
 exact ⟨_,_,rfl,t3,t2,_,_,rfl,b3,b2,rfl⟩
theorem z6 {base:Nat}{v0:Value}{d0:DataW H}{p:List MemPlace}(hval:Value.okWide Tryz.prog W .any base 44 v0) (h0:DataW.Trod enc Tryz.prog W 0 (fun _ => true) true 44 v0 d0 p) :
  ∃ x : Iss,Rd W (fun _ => False) (fun _ => none) (Kl x) v0 := by
 obtain ⟨cs,rfl,hsz⟩ := okWide_struct Tryz.underlying44 hval
 obtain ⟨fuel,hf⟩ := h0
 obtain ⟨xs,n,hn,_,hl,hlen,hg⟩ := DataW.trod_struct Tryz.underlying44 hf
 have f0 := hg 0 _ rfl
 have f1 := hg 1 _ rfl
 have f2 := hg 2 _ rfl
 have g : ∀ i,i < 3 → ∃ y,xs[i]? = some y := fun i hi => ⟨xs[i]'(by rw [hlen]; exact hi),List.getElem?_eq_getElem (by rw [hlen]; exact hi)⟩
 obtain ⟨y0,e0⟩ := g 0 (by decide)
 obtain ⟨y1,e1⟩ := g 1 (by decide)
 obtain ⟨y2,e2⟩ := g 2 (by decide)
 rw [e0] at f0
 rw [e1] at f1
 rw [e2] at f2
 change DataW.trod _ _ _ _ _ _ n 3 (((Value.agg cs).cells.toList.drop 0).take (Tryz.prog.cellsOf 3)) = _ at f0
 change DataW.trod _ _ _ _ _ _ n 3 (((Value.agg cs).cells.toList.drop 1).take (Tryz.prog.cellsOf 3)) = _ at f1
 change DataW.trod _ _ _ _ _ _ n 3 (((Value.agg cs).cells.toList.drop 2).take (Tryz.prog.cellsOf 3)) = _ at f2
 rw [zB] at f0 f1 f2
 have hcs : (Value.agg cs).cells.toList = cs.toList := rfl
 rw [Hi] at hl
 rw [hcs] at hl f0 f1 f2
 obtain ⟨a, b, c, hab⟩ : ∃ a b c, cs.toList = [a, b, c] := by
  match h : cs.toList,hl with
  | [a,b,c],_ => exact ⟨a,b,c,rfl⟩
 rw [hab] at f0 f1 f2
 obtain ⟨n0,q0,_,_⟩ := DataW.trod_int Tryz.underlying3 f0
 obtain ⟨n1,q1,_,_⟩ := DataW.trod_int Tryz.underlying3 f1
 obtain ⟨n2,q2,_,_⟩ := DataW.trod_int Tryz.underlying3 f2
 simp at q0 q1 q2
 subst q0 q1 q2
 refine ⟨⟨n0,n1,n2⟩,?_⟩
 simp only [Rd]
 refine ⟨[.int .i64 n0,.int .i64 n1,.int .i64 n2],by rw [← hab],?_⟩
 simp only [RdL]
 exact ⟨_,_,rfl,rfl,(by simp only [Rd]),_,_,rfl,rfl,(by simp only [Rd]),_,_,rfl,rfl,(by simp only [Rd]),rfl⟩
end
end Go.Proofs.YtgkalkgplcdnkaaGreat
namespace Go.Proofs.YtgkalkgplcdnkaaGreat
open Go.AL Go.RowKit
theorem FG (l:List Int) (hl:l.length ≤ 1048576):oY Tryz.prog 32 [sl cI l] (fun r E => ∃ a c B,r = .v (.slice a l.length c) ∧ E = [(.ints l,.slice a l.length c,B)]):=by
 (refine cC Tryz.func32 rfl (by simp [Tryz.ntmps32]) ?_; rw [Tryz.ntmps32])
 refine awt_lift ?_
 repeat' (first|refine aF ?_|fail)
 rw [DQ]
 refine aL (σ := Nat × List Int) [0,3] [] (fun k => [(4,iv (k.1 : Int))]) (fun k => [(0,some (flat cI k.2))]) (fun k => k.1 ≤ l.length ∧ k.2.length = l.length ∧ (∀ j,j < k.1 → k.2[j]! = l[j]!)) (fun k => l.length - k.1) (0,List.replicate l.length 0) ⟨by omega,by simp,by omega⟩ ?_
 rintro ⟨k,u⟩ ⟨hk,hul,hu⟩
 dsimp only at hk hul hu ⊢
 repeat' (first|refine aF ?_|(refine aU ?_ ?_ <;> intro hc hq <;> try (exfalso;omega))|fail)
 ·(refine bS (k + 1, u.set k l[k]!) (Le.renA [(0, 0)]) ?_ ?_)
  ·refine ⟨by dsimp only; omega, by dsimp only; rw [List.length_set]; exact hul, fun j hj => ?_⟩
   dsimp only at hj ⊢
   rw [aW]
   by_cases e : k = j
   ·subst e;rw [if_pos ⟨rfl,by omega⟩]
   ·rw [if_neg (fun q => e q.1)]; exact hu j (by omega)
  ·dsimp only;omega
 ·have e : u = l := bI hul fun j hj => hu j (by omega)
  subst e
  exact BK rfl rfl rfl rfl (fun a c B => ⟨a,c,B,rfl,rfl⟩)
theorem BP (m:Nat) (ih:∀ l,aI l < m → oY Tryz.prog 33 [sl aB l] (fun r E => ∃ a c B,r = .v (.slice a l.length c) ∧ E = [(.stms l,.slice a l.length c,B)])) (s:AL.Stmt) (hs:cP s ≤ m) :
  oY Tryz.prog 77 [cA s] (fun r E => ∃ a4 c4 B4 a5 c5 B5,r = .agg [iv s.op,iv s.x,iv s.y,iv s.n,.v (.slice a4 s.th.length c4),.v (.slice a5 s.el.length c5)] ∧ E = [(.stms s.th,.slice a4 s.th.length c4,B4),(.stms s.el,.slice a5 s.el.length c5,B5)]) := by
 have hct := dX s
 have c1 := ih s.th (by omega)
 have c2 := ih s.el (by omega)
 (refine cC Tryz.func77 rfl (by simp [Tryz.ntmps77]) ?_; rw [Tryz.ntmps77])
 iterate 6
  refine aR (awt_lift ?_)
  repeat' (first|refine aF ?_|fail)
  show cQ _ _ _ _ _ _
 refine aR (bG ?_)
 refine aV (l1 := [_,_]) ?_
 repeat' (first|refine aM ?_|fail)
 refine ⟨rfl,?_⟩
 refine aN rfl (.cons (.pur PurV.pf) .nil) c1 rfl ?_
 rintro _ _ ⟨a4,d4,B4,rfl,rfl⟩
 refine aV (l1 := [_,_]) (l2 := []) ?_
 repeat' (first|refine aM ?_|fail)
 refine ⟨rfl,?_⟩
 refine aJ ?_
 show cQ _ _ _ _ _ _
 refine aR (bG ?_)
 refine aV (l1 := [_,_]) ?_
 repeat' (first|refine aM ?_|fail)
 refine ⟨rfl,?_⟩
 refine aN rfl (.cons (.pur PurV.pf) .nil) c2 rfl ?_
 rintro _ _ ⟨a5,d5,B5,rfl,rfl⟩
 refine aV (l1 := [_,_]) (l2 := []) ?_
 repeat' (first|refine aM ?_|fail)
 refine ⟨rfl,?_⟩
 refine aJ ?_
 show cQ _ _ _ _ _ _
 refine awt_lift ?_
 repeat' (first|refine aF ?_|fail)
 exact mU (l := [.agg [iv s.op,iv s.x,iv s.y,iv s.n,.v (.slice a4 s.th.length d4),.v (.slice a5 s.el.length d5)]]) rfl rfl rfl ⟨a4,d4,B4,a5,d5,B5,rfl,rfl⟩
theorem Ab (m:Nat) (hm:m ≤ 1048576) (ih:∀ s,cP s ≤ m → oY Tryz.prog 77 [cA s] (fun r E => ∃ a4 c4 B4 a5 c5 B5,r = .agg [iv s.op,iv s.x,iv s.y,iv s.n,.v (.slice a4 s.th.length c4),.v (.slice a5 s.el.length c5)] ∧ E = [(.stms s.th,.slice a4 s.th.length c4,B4),(.stms s.el,.slice a5 s.el.length c5,B5)]))
  (l : List AL.Stmt) (hs : aI l ≤ m) : oY Tryz.prog 33 [sl aB l] (fun r E => ∃ a c B,r = .v (.slice a l.length c) ∧ E = [(.stms l,.slice a l.length c,B)]) := by
 have hlen := bR l
 (refine cC Tryz.func33 rfl (by simp [Tryz.ntmps33]) ?_; rw [Tryz.ntmps33])
 iterate 2
  refine aR (awt_lift ?_)
  repeat' (first|refine aF ?_|fail)
  show cQ _ _ _ _ _ _
 refine aR (aR (awt_lift ?_))
 repeat' (first|refine aF ?_|fail)
 show cQ _ _ _ _ _ _
 rw [FV]
 refine gU ?_
 refine oG (σ := Nat × List SX) [0,3] [(0,_),(3,_)] [] [] (fun k => [(4,iv (k.1 : Int))]) (fun k => [(0,some (flat cT (k.2 ++ List.replicate (l.length - k.1) zT)))]) (fun k => dU k.2) (fun k => k.1 ≤ l.length ∧ k.2.length = k.1 ∧ (∀ j,j < k.1 → k.2[j]!.1 = l[j]!)) (fun k => l.length - k.1) (0,[]) ⟨by omega,rfl,by omega⟩ (rfl) rfl rfl (by repeat' (first|exact trivial|refine And.intro rfl ?_)) (by repeat' (first|exact trivial|refine And.intro (.inr rfl) ?_)) ?_
 rintro ⟨k,u⟩ ⟨hk,hul,hu⟩
 dsimp only at hk hul hu ⊢
 have hol : (u ++ List.replicate (l.length - k) zT).length = l.length := by rw [List.length_append,List.length_replicate]; omega
 refine aR (aR (awt_lift ?_))
 repeat' (first|refine aF ?_|fail)
 show cQ _ _ _ _ _ _
 refine gF rfl (fun hb => iI ?_) (fun hb => qP ?_)
 ·show cQ _ _ _ _ _ _
  have hkl : k < l.length := by have := of_decide_eq_true hb;omega
  have hck := cZ l k hkl
  have c1 := ih l[k]! (by omega)
  refine aR (gU (bG ?_))
  refine aV (l1 := [_,_,_,_,_,_]) ?_
  repeat' (first|refine aM ?_|fail)
  refine ⟨rfl,?_⟩
  refine aN rfl (.cons (.pur PurV.pf) .nil) c1 rfl ?_
  rintro _ _ ⟨a4,d4,B4,a5,d5,B5,rfl,rfl⟩
  refine aV (l1 := [_,_]) (l2 := []) ?_
  repeat' (first|(apply aH;(apply cO;rfl;rfl;rfl;rfl;rfl;(rw [aK cT (e := 6)]; (show _ + 6 ≤ _);omega);exact JK (l[k]!,(.slice a4 l[k]!.th.length d4,B4),(.slice a5 l[k]!.el.length d5,B5)) (by omega)))|refine aM ?_|fail)
  refine ⟨rfl,?_⟩
  refine aJ ?_
  show cQ _ _ _ _ _ _
  refine awt_lift ?_
  repeat' (first|refine aF ?_|fail)
  have e : (u ++ List.replicate (l.length - k) zT).set k (l[k]!, (.slice a4 l[k]!.th.length d4, B4), (.slice a5 l[k]!.el.length d5, B5)) = (u ++ [(l[k]!, (.slice a4 l[k]!.th.length d4, B4), (.slice a5 l[k]!.el.length d5, B5))]) ++ List.replicate (l.length - (k + 1)) zT := by
   rw [show l.length - k = l.length - (k + 1) + 1 by omega,List.replicate_succ,← hul]
   rw [List.set_append_right _ _ (Nat.le_refl _),Nat.sub_self,List.set_cons_zero,List.append_assoc]; rfl
  rw [e]
  refine ⟨(k + 1,u ++ [(l[k]!,(.slice a4 l[k]!.th.length d4,B4),(.slice a5 l[k]!.el.length d5,B5))]),⟨by dsimp only;omega,by simp [hul],fun j hj => ?_⟩,by dsimp only;omega,?_,bX _ _⟩
  ·dsimp only at hj ⊢
   by_cases e2 : j < k
   ·rw [bF _ _ (by simp;omega),List.getElem_append_left (by omega),← bF u j (by omega)]; exact hu j e2
   ·have : j = k := by omega
    subst this
    rw [bF _ _ (by simp;omega),List.getElem_append_right (by omega)]; simp [hul]
  ·refine Le.ren [(0,0)] rfl (by decide) ?_ ?_ <;> repeat' (first|exact trivial|refine And.intro ⟨_,rfl,?_⟩ ?_|refine And.intro ⟨_,_,rfl,rfl,?_⟩ ?_|exact Or.inr rfl|refine Or.inl ⟨?_,(by first|rfl|exact bD _ _)⟩|rfl)
 ·have hkl : k = l.length := by have := of_decide_eq_false hb; omega
  show cQ _ _ _ _ _ _
  have hm : u.map (·.1) = l := List.ext_getElem (by simp; omega) fun j h1 h2 => by
   have := hu j (by omega)
   rw [bF _ _ (by omega),bF _ _ h2] at this
   simpa using this
  have hul' : u.length = l.length := by omega
  rw [show u ++ List.replicate (l.length - k) zT = u by rw [hkl,Nat.sub_self]; simp]
  refine awt_lift ?_
  repeat' (first|refine aF ?_|fail)
  refine AZ rfl rfl rfl hul'.symm (fun a c B => ⟨a,c,B,?_,?_⟩)
  ·rw [hul']
  ·rw [hul',hm]
theorem EP:∀ (m:Nat),m ≤ 1048576 → (∀ s,cP s ≤ m → oY Tryz.prog 77 [cA s] (fun r E => ∃ a4 c4 B4 a5 c5 B5,r = .agg [iv s.op,iv s.x,iv s.y,iv s.n,.v (.slice a4 s.th.length c4),.v (.slice a5 s.el.length c5)] ∧ E = [(.stms s.th,.slice a4 s.th.length c4,B4),(.stms s.el,.slice a5 s.el.length c5,B5)])) ∧
  (∀ l,aI l ≤ m → oY Tryz.prog 33 [sl aB l] (fun r E => ∃ a c B,r = .v (.slice a l.length c) ∧ E = [(.stms l,.slice a l.length c,B)])) := by
 intro m
 induction m using Nat.strongRecOn with
 | ind m ih =>
  intro hm
  have h1 := fun s a1 => BP m (fun l g1 => (ih (aI l) g1 (by omega)).2 l (Nat.le_refl _)) s a1
  exact ⟨h1,fun l g1 => Ab m hm h1 l g1⟩
theorem wT (p:Prg) (hl:p.types.length ≤ 1048576) (hs:aI p.body ≤ 1048576):oY Tryz.prog 9 [bY p] (fun r E => ∃ a4 c4 B4 a5 c5 B5,r = .agg [.v (.slice a4 p.types.length c4),.v (.slice a5 p.body.length c5)] ∧ E = [(.ints p.types,.slice a4 p.types.length c4,B4),(.stms p.body,.slice a5 p.body.length c5,B5)]):=by
 have c1 := FG p.types hl
 have c2 := (EP _ hs).2 p.body (Nat.le_refl _)
 (refine cC Tryz.func9 rfl (by simp [Tryz.ntmps9]) ?_; rw [Tryz.ntmps9])
 iterate 2
  refine aR (awt_lift ?_)
  repeat' (first|refine aF ?_|fail)
  show cQ _ _ _ _ _ _
 refine aR (bG ?_)
 refine aV (l1 := [_,_]) ?_
 repeat' (first|refine aM ?_|fail)
 refine ⟨rfl,?_⟩
 refine aN rfl (.cons (.pur PurV.pf) .nil) c1 rfl ?_
 rintro _ _ ⟨a4,d4,B4,rfl,rfl⟩
 refine aV (l1 := [_,_]) (l2 := []) ?_
 repeat' (first|refine aM ?_|fail)
 refine ⟨rfl,?_⟩
 refine aJ ?_
 show cQ _ _ _ _ _ _
 refine aR (bG ?_)
 refine aV (l1 := [_,_]) ?_
 repeat' (first|refine aM ?_|fail)
 refine ⟨rfl,?_⟩
 refine aN rfl (.cons (.pur PurV.pf) .nil) c2 rfl ?_
 rintro _ _ ⟨a5,d5,B5,rfl,rfl⟩
 refine aV (l1 := [_,_]) (l2 := []) ?_
 repeat' (first|refine aM ?_|fail)
 refine ⟨rfl,?_⟩
 refine aJ ?_
 show cQ _ _ _ _ _ _
 refine awt_lift ?_
 repeat' (first|refine aF ?_|fail)
 exact mU (l := [.agg [.v (.slice a4 p.types.length d4),.v (.slice a5 p.body.length d5)]]) rfl rfl rfl ⟨a4,d4,B4,a5,d5,B5,rfl,rfl⟩
theorem yV (l:List Int) (k:Int) (hk0:0 ≤ k) (hk:k + l.length ≤ 1000000000):TMk Tryz.prog 14 (.ints l) (.ints (rJ k l.length)) k (k + l.length):=by
 refine EI Tryz.func14 rfl (by simp [Tryz.ntmps14]) (nH _ _) (fun h => ?_) (fun h => ?_)
 ·subst h
  refine aC Tryz.func14 Tryz.ntmps14 ?_
  repeat' (first|refine aF ?_|fail)
  refine aL (σ := Unit) [0,1,5] [] (fun u => []) (fun u => []) (fun u => True) (fun u => 0) () trivial ?_
  rintro u _
  repeat' (first|refine aF ?_|fail)
  refine aO rfl ⟨?_,rfl⟩
  simp [aQ]
 ·rw [Tryz.ntmps14]
  repeat' (first|refine aF ?_|fail)
  refine aL (σ := Nat × Int × List Int) [0] [] (fun i => [(5,iv (i.1 : Int)),(1,iv i.2.1)]) (fun i => [(0,some (flat cI i.2.2))]) (fun i => i.1 ≤ l.length ∧ i.2.1 = k + i.1 ∧ i.2.2 = rJ k i.1 ++ l.drop i.1) (fun i => l.length - i.1) (0,k,l) ⟨by omega,by simp,by simp [rJ]⟩ ?_
  rintro ⟨i,z,u⟩ ⟨hi,hz,hu⟩
  dsimp only at hi hz hu ⊢
  have hul : u.length = l.length := by rw [hu,List.length_append,nH,List.length_drop]; omega
  by_cases hil : i < l.length
  ·have e : u.set i z = rJ k (i + 1) ++ l.drop (i + 1) := by
    rw [hu,D8,List.drop_eq_getElem_cons hil,List.set_append_right _ _ (by rw [nH]; exact Nat.le_refl _),nH,Nat.sub_self,List.set_cons_zero,hz]; simp
   repeat' (first|refine aF ?_|(refine aU ?_ ?_ <;> intro hc hq <;> try (exfalso;omega))|fail)
   rw [e]
   (refine bS (i + 1,z + 1,rJ k (i + 1) ++ l.drop (i + 1)) (Le.renA []) ?_ ?_)
   ·exact ⟨by dsimp only;omega,by dsimp only;omega,rfl⟩
   ·dsimp only;omega
  ·have hie : i = l.length := by omega
   subst hie
   repeat' (first|refine aF ?_|(refine aU ?_ ?_ <;> intro hc hq <;> try (exfalso;omega))|fail)
   refine ⟨.inl rfl,?_,?_⟩
   ·rw [hz]; rfl
   ·show some (flat cI u) = _
    rw [hu,List.drop_length,List.append_nil]
theorem Ig {xs:List SX}{k:Nat}{v:Int}(hk:k < xs.length):iH (flat cT xs) (0 + k * 6 + 0) [iv v] = flat cT (xs.set k (.mk v xs[k]!.1.x xs[k]!.1.y xs[k]!.1.n xs[k]!.1.th xs[k]!.1.el,xs[k]!.2)) := lK hk (by simp) rfl
theorem Jh {xs:List SX}{k:Nat}{v:Int}(hk:k < xs.length):iH (flat cT xs) (0 + k * 6 + 1) [iv v] = flat cT (xs.set k (.mk xs[k]!.1.op v xs[k]!.1.y xs[k]!.1.n xs[k]!.1.th xs[k]!.1.el,xs[k]!.2)) := lK hk (by simp) rfl
theorem IM {xs:List SX}{k:Nat}{v:Int}(hk:k < xs.length):iH (flat cT xs) (0 + k * 6 + 2) [iv v] = flat cT (xs.set k (.mk xs[k]!.1.op xs[k]!.1.x v xs[k]!.1.n xs[k]!.1.th xs[k]!.1.el,xs[k]!.2)) := lK hk (by simp) rfl
theorem IE {xs:List SX}{k:Nat}{v:Int}(hk:k < xs.length):iH (flat cT xs) (0 + k * 6 + 3) [iv v] = flat cT (xs.set k (.mk xs[k]!.1.op xs[k]!.1.x xs[k]!.1.y v xs[k]!.1.th xs[k]!.1.el,xs[k]!.2)) := lK hk (by simp) rfl
theorem lM (us rs:List SX) (a:SX):(us ++ a :: rs)[us.length]! = a:=by
 rw [bF _ _ (by simp),List.getElem_append_right (Nat.le_refl _)]; simp
theorem pA (us rs:List SX) (a b:SX):(us ++ a :: rs).set us.length b = us ++ b :: rs:=by
 rw [List.set_append_right _ _ (Nat.le_refl _),Nat.sub_self,List.set_cons_zero]
theorem J3 {us rs:List SX}{o x y n v:Int}{th el:List AL.Stmt}{p:(Value × List Nat) × (Value × List Nat)}:iH (flat cT (us ++ (.mk o x y n th el,p) :: rs)) (0 + us.length * 6 + 0) [iv v] = flat cT (us ++ (.mk v x y n th el,p) :: rs):=by
 rw [Ig (by simp),lM,pA]; rfl
theorem JG {us rs:List SX}{o x y n v:Int}{th el:List AL.Stmt}{p:(Value × List Nat) × (Value × List Nat)}:iH (flat cT (us ++ (.mk o x y n th el,p) :: rs)) (0 + us.length * 6 + 1) [iv v] = flat cT (us ++ (.mk o v y n th el,p) :: rs):=by
 rw [Jh (by simp),lM,pA]; rfl
theorem JL {us rs:List SX}{o x y n v:Int}{th el:List AL.Stmt}{p:(Value × List Nat) × (Value × List Nat)}:iH (flat cT (us ++ (.mk o x y n th el,p) :: rs)) (0 + us.length * 6 + 2) [iv v] = flat cT (us ++ (.mk o x v n th el,p) :: rs):=by
 rw [IM (by simp),lM,pA]; rfl
theorem J0 {us rs:List SX}{o x y n v:Int}{th el:List AL.Stmt}{p:(Value × List Nat) × (Value × List Nat)}:iH (flat cT (us ++ (.mk o x y n th el,p) :: rs)) (0 + us.length * 6 + 3) [iv v] = flat cT (us ++ (.mk o x y v th el,p) :: rs):=by
 rw [IE (by simp),lM,pA]; rfl
theorem I2 (us rs:List SX) (a b:SX) (h:cT a = cT b):flat cT (us ++ a :: rs) = flat cT (us ++ b :: rs):=by
 rw [← bC,← bC]
 congr 1
 show cT a ++ flat cT rs = cT b ++ flat cT rs
 rw [h]
theorem Bf (us rs:List SX) (a:SX):dU (us ++ a :: rs) = dU us ++ ([(.stms a.1.th,a.2.1.1,a.2.1.2)] ++ ([(.stms a.1.el,a.2.2.1,a.2.2.2)] ++ dU rs)):=by
 unfold dU;rw [List.flatMap_append]; simp
theorem yT (n:Nat) (k:Int) (hk0:0 ≤ k) (hk:k + n ≤ 1000000000):PC Tryz.prog 15 [sl cI (rJ k n),iv k] (fun r => r = iv (k + n)):=by
 have hl := nH k n
 have hg : ∀ i,i < n → (rJ k n)[i]! = k + (i : Int) := fun i hi => bH _ _ _ hi
 generalize rJ k n = L at *
 refine aC Tryz.func15 Tryz.ntmps15 ?_
 repeat' (first|refine aF ?_|fail)
 refine aL (σ := Nat × Int) [0] [] (fun i => [(5,iv (i.1 : Int)),(1,iv i.2)]) (fun i => []) (fun i => i.1 ≤ n ∧ i.2 = k + i.1) (fun i => n - i.1) (0,k) ⟨by omega,by simp⟩ ?_
 rintro ⟨i,z⟩ ⟨hi,hz⟩
 dsimp only at hi hz ⊢
 by_cases hin : i < n
 ·have hgi := hg i hin
  repeat' (first|refine aF ?_|(refine aU ?_ ?_ <;> intro hc hq <;> try (exfalso;omega))|fail)
  all_goals first
   | (exfalso;omega)
   | ((refine bS (i + 1, z + 1) (Le.renA []) ?_ ?_)
      ·exact ⟨by dsimp only;omega,by dsimp only;omega⟩
      ·dsimp only;omega)
 ·have hie : i = n := by omega
  subst hie
  repeat' (first|refine aF ?_|(refine aU ?_ ?_ <;> intro hc hq <;> try (exfalso;omega))|fail)
  refine aO rfl ⟨?_,rfl⟩
  simp only [aQ,hz]
theorem o7 (us rs:List SX) (a:SX) (j:Nat) (hj:j < 6):0 + us.length * 6 + j + 1 ≤ (flat cT (us ++ a :: rs)).length:=by
 rw [aK cT (e := 6),List.length_append,List.length_cons]; omega
theorem uT (m:Nat) (hm:m ≤ 1048576) (ih:∀ l (k:Int),aI l < m → 0 ≤ k → k + 4 * (aI l:Nat) ≤ 1000000000 → TMk Tryz.prog 39 (.stms l) (.stms (iO k l)) k (k + 4 * (aI l:Nat))) (l:List AL.Stmt) (k:Int) (hs:aI l ≤ m) (hk0:0 ≤ k) (hk:k + 4 * (aI l:Nat) ≤ 1000000000) :
  TMk Tryz.prog 39 (.stms l) (.stms (iO k l)) k (k + 4 * (aI l : Nat)) := by
 have hlen := bR l
 refine Ee Tryz.func39 rfl (by simp [Tryz.ntmps39]) (fun h => ?_) (fun h xs hxs => ?_)
 ·subst h
  refine ⟨by simp [iO],?_⟩
  refine aC Tryz.func39 Tryz.ntmps39 ?_
  repeat' (first|refine aF ?_|fail)
  refine aL (σ := Unit) [0,1,5] [] (fun u => []) (fun u => []) (fun u => True) (fun u => 0) () trivial ?_
  rintro u _
  repeat' (first|refine aF ?_|fail)
  refine aO rfl ⟨?_,rfl⟩
  simp [aQ,aI]
 ·rw [Tryz.ntmps39]
  have hxl : xs.length = l.length := by have := congrArg List.length hxs;simpa using this
  iterate 1
   refine aR (awt_lift ?_)
   repeat' (first|refine aF ?_|fail)
   show cQ _ _ _ _ _ _
  refine aR (aR (awt_lift ?_))
  repeat' (first|refine aF ?_|fail)
  show cQ _ _ _ _ _ _
  refine gU ?_
  refine oG (σ := Nat × Int × List SX) [0] [(0,_)] [] [] (fun i => [(5,iv (i.1 : Int)),(1,iv i.2.1)]) (fun i => [(0,some (flat cT (i.2.2 ++ xs.drop i.1)))]) (fun i => dU (i.2.2 ++ xs.drop i.1)) (fun i => i.1 ≤ l.length ∧ i.2.1 = k + 4 * (aI (l.take i.1) : Nat) ∧ i.2.2.length = i.1 ∧ i.2.2.map (·.1) = iO k (l.take i.1) ∧ i.2.2.map (·.2) = (xs.take i.1).map (·.2)) (fun i => l.length - i.1) (0,k,[]) ⟨by omega,by simp [aI],rfl,by simp [iO],by simp⟩ (rfl) rfl rfl (by repeat' (first|exact trivial|refine And.intro rfl ?_)) (by repeat' (first|exact trivial|refine And.intro (.inr rfl) ?_)) ?_
  rintro ⟨i,z,us⟩ ⟨hi,hz,hul,hu1,hu2⟩
  dsimp only at hi hz hul hu1 hu2 ⊢
  have hol : (us ++ xs.drop i).length = l.length := by rw [List.length_append,List.length_drop]; omega
  refine aR (aR (awt_lift ?_))
  repeat' (first|refine aF ?_|fail)
  show cQ _ _ _ _ _ _
  refine gF rfl (fun hb => iI ?_) (fun hb => qP ?_)
  ·show cQ _ _ _ _ _ _
   have hil : i < l.length := by have := of_decide_eq_true hb;omega
   have hdr : xs.drop i = xs[i]! :: xs.drop (i + 1) := by rw [List.drop_eq_getElem_cons (by omega),bF _ _ (by omega)]
   have hx1 : xs[i]!.1 = l[i]! := by
    have : (xs.map (·.1))[i]! = l[i]! := by rw [hxs]
    rw [bF _ _ (by simp;omega),List.getElem_map] at this
    rw [bF _ _ (by omega)]; exact this
   have hck := cZ l i hil
   have hct := dX l[i]!
   have hts := kK hil
   have hms := rP hil k
   have hcl : aI (l.take (i + 1)) ≤ aI l := by have := dG (l.take (i + 1)) (l.drop (i + 1));rw [List.take_append_drop] at this;omega
   have hsd := uF z l[i]!
   have hcd := fK l[i]!
   have htk : xs.take (i + 1) = xs.take i ++ [xs[i]!] := by rw [bF _ _ (by omega),List.take_succ_eq_append_getElem (by omega)]
   rw [hdr] at hol ⊢
   rw [← hx1] at hck hct hts hms hsd hcd
   generalize hrs : xs.drop (i + 1) = rs at *
   generalize xs[i]! = a at *
   obtain ⟨⟨o,x,y,n,th,el⟩,⟨y4,B4⟩,⟨y5,B5⟩⟩ := a
   have hcd : cP (.mk o x y n th el) = 1 + aI th + aI el := fK (.mk o x y n th el)
   have hts : aI (l.take (i + 1)) = aI (l.take i) + cP (.mk o x y n th el) := hts
   have hck : cP (.mk o x y n th el) ≤ aI l := hck
   have hsd : FY z (.mk o x y n th el) = .mk z (z + 1) (z + 2) (z + 3) (iO (z + 4) th) (iO (z + 4 + 4 * (aI th : Nat)) el) := uF z (.mk o x y n th el)
   have m1 := ih th (z + 4) (by omega) (by omega) (by omega)
   have m2 := ih el (z + 4 + 4 * (aI th : Nat)) (by omega) (by omega) (by omega)
   subst hul
   have hol : us.length + (rs.length + 1) = l.length := by rw [← hol]; simp
   refine aR (gU ?_)
   refine aR (awt_lift ?_)
   repeat' (first|(apply aH;(apply cO;rfl;rfl;rfl;rfl;rfl;exact o7 _ _ _ 0 (by decide);exact J3))|refine aF ?_|fail)
   show cQ _ _ _ _ _ _
   refine aR (awt_lift ?_)
   repeat' (first|refine aF ?_|fail)
   show cQ _ _ _ _ _ _
   refine aR (awt_lift ?_)
   repeat' (first|(apply aH;(apply cO;rfl;rfl;rfl;rfl;rfl;exact o7 _ _ _ 1 (by decide);exact JG))|refine aF ?_|fail)
   show cQ _ _ _ _ _ _
   refine aR (awt_lift ?_)
   repeat' (first|refine aF ?_|fail)
   show cQ _ _ _ _ _ _
   refine aR (awt_lift ?_)
   repeat' (first|(apply aH;(apply cO;rfl;rfl;rfl;rfl;rfl;exact o7 _ _ _ 2 (by decide);exact JL))|refine aF ?_|fail)
   show cQ _ _ _ _ _ _
   refine aR (awt_lift ?_)
   repeat' (first|refine aF ?_|fail)
   show cQ _ _ _ _ _ _
   refine aR (awt_lift ?_)
   repeat' (first|(apply aH;(apply cO;rfl;rfl;rfl;rfl;rfl;exact o7 _ _ _ 3 (by decide);exact J0))|refine aF ?_|fail)
   show cQ _ _ _ _ _ _
   refine aR (awt_lift ?_)
   repeat' (first|refine aF ?_|fail)
   show cQ _ _ _ _ _ _
   have hlt : ∀ b : SX,us.length < (us ++ b :: rs).length := fun b => by simp
   rw [show z + 1 + 1 + 1 + 1 = z + 4 by omega,show z + 1 + 1 + 1 = z + 3 by omega,show z + 1 + 1 = z + 2 by omega]
   refine aR (bG ?_)
   refine aV (l1 := [_,_,_,_,_,_]) ?_
   repeat' (first|(apply aH;(apply nT;(case hx|hH => rfl);(case hf|hg|hα => infer_instance);(case hk => exact hlt _);(case hc|hN => rfl)))|refine aM ?_|fail)
   rw [lM]
   refine ⟨rfl,?_⟩
   refine jH (dU us) [(.stms th,y4,B4)] ([(.stms el,y5,B5)] ++ dU rs) (E0' := [(.stms (iO (z + 4) th),y4,B4)]) (Bf _ _ _) rfl rfl (m1.e y4 B4) rfl rfl ?_
   refine aV (l1 := [_]) (l2 := []) ?_
   repeat' (first|refine aM ?_|fail)
   refine ⟨rfl,aJ ?_⟩
   show cQ _ _ _ _ _ _
   refine bG ?_
   refine aV (l1 := [_,_,_,_,_,_]) ?_
   repeat' (first|(apply aH;(apply nT;(case hx|hH => rfl);(case hf|hg|hα => infer_instance);(case hk => exact hlt _);(case hc|hN => rfl)))|refine aM ?_|fail)
   rw [lM]
   refine ⟨rfl,?_⟩
   refine jH (dU us ++ [(.stms (iO (z + 4) th),y4,B4)]) [(.stms el,y5,B5)] (dU rs) (E0' := [(.stms (iO (z + 4 + 4 * (aI th : Nat)) el),y5,B5)]) (by simp) rfl rfl (m2.e y5 B5) rfl rfl ?_
   refine aV (l1 := [_]) (l2 := []) ?_
   repeat' (first|refine aM ?_|fail)
   refine ⟨rfl,aJ ?_⟩
   show cQ _ _ _ _ _ _
   refine awt_lift ?_
   repeat' (first|refine aF ?_|fail)
   rw [I2 us rs _ ((FY z (.mk o x y n th el),(y4,B4),(y5,B5)) : SX) (by rw [hsd]; rfl)]
   have hE : dU ((us ++ [((FY z (.mk o x y n th el), (y4, B4), (y5, B5)) : SX)]) ++ rs) = dU us ++ [(.stms (iO (z + 4) th), y4, B4)] ++ ([(.stms (iO (z + 4 + 4 * (aI th : Nat)) el), y5, B5)] ++ dU rs) := by
    rw [List.append_assoc,List.singleton_append,Bf,hsd]; simp [AL.Stmt.th,AL.Stmt.el]
   refine ⟨(us.length + 1,z + 4 + 4 * (aI th : Nat) + 4 * (aI el : Nat),us ++ [((FY z (.mk o x y n th el),(y4,B4),(y5,B5)) : SX)]),⟨by dsimp only;omega,by dsimp only;omega,by simp,?_,?_⟩,by dsimp only;omega,?_,?_⟩
   ·dsimp only
    rw [List.map_append,hu1,hms,hz]; rfl
   ·dsimp only
    rw [List.map_append,hu2,htk,List.map_append]; rfl
   ·dsimp only
    rw [hrs,List.append_assoc,List.singleton_append]
    refine Le.ren [] rfl (by decide) ?_ ?_ <;> repeat' (first|exact trivial|refine And.intro ⟨_,rfl,?_⟩ ?_|refine And.intro ⟨_,_,rfl,rfl,?_⟩ ?_|exact Or.inr rfl|refine Or.inl ⟨?_,(by first|rfl|exact bD _ _)⟩|rfl)
   ·dsimp only
    rw [hrs]; exact hE
  ·have hil : i = l.length := by have := of_decide_eq_false hb; omega
   subst hil
   show cQ _ _ _ _ _ _
   rw [show xs.drop l.length = [] from List.drop_of_length_le (by omega),List.append_nil]
   rw [List.take_length] at hz hu1
   refine awt_lift ?_
   repeat' (first|refine aF ?_|fail)
   refine ⟨.inl rfl,?_,us,rfl,?_,hu1,?_⟩
   ·rw [hz]; rfl
   ·rfl
   ·rw [hu2,List.take_of_length_le (by omega)]
theorem xU:∀ (m:Nat),m ≤ 1048576 → ∀ (l:List AL.Stmt) (k:Int),aI l ≤ m → 0 ≤ k → k + 4 * (aI l:Nat) ≤ 1000000000 → TMk Tryz.prog 39 (.stms l) (.stms (iO k l)) k (k + 4 * (aI l:Nat)):=by
 intro m
 induction m using Nat.strongRecOn with
 | ind m ih =>
  intro hm l k hl h0 hk
  exact uT m hm (fun l' k' h1 h2 h3 => ih (aI l') h1 (by omega) l' k' (Nat.le_refl _) h2 h3) l k hl h0 hk
theorem l6 (p:Prg) (k:Int) (hl:p.types.length ≤ 1048576) (hs:aI p.body ≤ 1048576) (hk0:0 ≤ k) (hk:k ≤ 1048576) (a4:Option Addr) (c4:Nat) (B4:List Nat) (a5:Option Addr) (c5:Nat) (B5:List Nat) :
  Kc Tryz.prog 13 [.agg [.v (.slice a4 p.types.length c4), .v (.slice a5 p.body.length c5)], iv k] [(.ints p.types, .slice a4 p.types.length c4, B4), (.stms p.body, .slice a5 p.body.length c5, B5)]
   [(.ints (rJ k p.types.length),.slice a4 p.types.length c4,B4),(.stms (iO (k + p.types.length) p.body),.slice a5 p.body.length c5,B5)] (k + p.types.length + 4 * (aI p.body : Nat)) := by
 have m1 := yV p.types k hk0 (by omega)
 have m2 := xU _ hs p.body (k + p.types.length) (Nat.le_refl _) (by omega) (by omega)
 refine y8 Tryz.func13 rfl (by simp [Tryz.ntmps13]) ?_ rfl
 rw [Tryz.ntmps13]
 refine aR (awt_lift ?_)
 repeat' (first|refine aF ?_|fail)
 show cQ _ _ _ _ _ _
 refine aR (bG ?_)
 refine aV (l1 := [_,_,_]) ?_
 repeat' (first|refine aM ?_|fail)
 refine ⟨rfl,?_⟩
 refine jH [] [(.ints p.types,.slice a4 p.types.length c4,B4)] [(.stms p.body,.slice a5 p.body.length c5,B5)] (E0' := [(.ints (rJ k p.types.length),.slice a4 p.types.length c4,B4)]) rfl rfl rfl (m1.e _ B4) rfl rfl ?_
 refine aV (l1 := [_]) (l2 := []) ?_
 repeat' (first|refine aM ?_|fail)
 refine ⟨rfl,aJ ?_⟩
 show cQ _ _ _ _ _ _
 refine aR (bG ?_)
 refine aV (l1 := [_,_,_]) ?_
 repeat' (first|refine aM ?_|fail)
 refine ⟨rfl,?_⟩
 refine jH [(.ints (rJ k p.types.length),.slice a4 p.types.length c4,B4)] [(.stms p.body,.slice a5 p.body.length c5,B5)] [] (E0' := [(.stms (iO (k + p.types.length) p.body),.slice a5 p.body.length c5,B5)]) rfl rfl rfl (m2.e _ B5) rfl rfl ?_
 refine aV (l1 := [_]) (l2 := []) ?_
 repeat' (first|refine aM ?_|fail)
 refine ⟨rfl,aJ ?_⟩
 show cQ _ _ _ _ _ _
 refine awt_lift ?_
 repeat' (first|refine aF ?_|fail)
 exact ⟨.inl rfl,rfl,rfl⟩
theorem Bv:∀ (l:List AL.Stmt) (k:Int) (i:Nat),i < l.length → (iO k l)[i]! = FY (k + 4 * (aI (l.take i):Nat)) l[i]!
 | [],_,_,h => by simp at h
 | s :: l,k,0,h => by simp [iO,aI]
 | s :: l, k, i + 1, h => by
  have := Bv l (k + 4 * (cP s : Nat)) i (by simpa using h)
  simp only [iO,List.getElem!_cons_succ,List.take_succ_cons,aI] at this ⊢
  rw [this,show k + 4 * ((cP s : Nat) : Int) + 4 * ((aI (l.take i) : Nat) : Int) = k + 4 * ((cP s + aI (l.take i) : Nat) : Int) by omega]
theorem EX (m:Nat) (hm:m ≤ 1048576) (ih:∀ l (k:Int),aI l < m → 0 ≤ k → k + 4 * (aI l:Nat) ≤ 1000000000 → PC Tryz.prog 51 [sl aB (iO k l),iv k] (fun r => r = iv (k + 4 * (aI l:Nat)))) (l:List AL.Stmt) (k:Int) (hs:aI l ≤ m) (hk0:0 ≤ k) (hk:k + 4 * (aI l:Nat) ≤ 1000000000) :
  PC Tryz.prog 51 [sl aB (iO k l),iv k] (fun r => r = iv (k + 4 * (aI l : Nat))) := by
 have hlen := bR l
 have hml := Bt l k
 have hg := Bv l k
 generalize iO k l = M at *
 refine aC Tryz.func51 Tryz.ntmps51 ?_
 repeat' (first|refine aF ?_|fail)
 refine aL (σ := Nat × Int) [0] [] (fun i => [(5,iv (i.1 : Int)),(1,iv i.2)]) (fun i => []) (fun i => i.1 ≤ l.length ∧ i.2 = k + 4 * (aI (l.take i.1) : Nat)) (fun i => l.length - i.1) (0,k) ⟨by omega,by simp [aI]⟩ ?_
 rintro ⟨i,z⟩ ⟨hi,hz⟩
 dsimp only at hi hz ⊢
 by_cases hil : i < l.length
 ·have hgi := hg i hil
  rw [← hz,uF] at hgi
  have hct := dX l[i]!
  have hck := cZ l i hil
  have hts := kK hil
  have hcd := fK l[i]!
  have hcl : aI (l.take (i + 1)) ≤ aI l := by have := dG (l.take (i + 1)) (l.drop (i + 1));rw [List.take_append_drop] at this;omega
  have e0 : M[i]!.op = z := by rw [hgi]; rfl
  have e1 : M[i]!.x = z + 1 := by rw [hgi]; rfl
  have e2 : M[i]!.y = z + 2 := by rw [hgi]; rfl
  have e3 : M[i]!.n = z + 3 := by rw [hgi]; rfl
  have e4 : M[i]!.th = iO (z + 4) l[i]!.th := by rw [hgi]; rfl
  have e5 : M[i]!.el = iO (z + 4 + 4 * (aI l[i]!.th : Nat)) l[i]!.el := by rw [hgi]; rfl
  have c1 : PC Tryz.prog 51 [sl aB M[i]!.th, iv (z + 1 + 1 + 1 + 1)] (fun r => r = iv (z + 4 + 4 * (aI l[i]!.th : Nat))) := by
   rw [e4,show z + 1 + 1 + 1 + 1 = z + 4 by omega]; exact ih _ _ (by omega) (by omega) (by omega)
  have c2 : PC Tryz.prog 51 [sl aB M[i]!.el, iv (z + 4 + 4 * (aI l[i]!.th : Nat))] (fun r => r = iv (z + 4 + 4 * (aI l[i]!.th : Nat) + 4 * (aI l[i]!.el : Nat))) := by
   rw [e5]; exact ih _ _ (by omega) (by omega) (by omega)
  clear ih hg hgi
  repeat' (first|(apply aH;first|(apply aA (k := 51);rfl;exact c1;exact Pur.pf;rfl)|(apply aA (k := 51);rfl;exact c2;exact Pur.pf;rfl))|refine aF ?_|(refine aU ?_ ?_ <;> intro hc hq <;> try (exfalso;omega))|fail)
  all_goals first
   | (exfalso;omega)
   | ((refine bS (i + 1, z + 4 + 4 * (aI l[i]!.th : Nat) + 4 * (aI l[i]!.el : Nat)) (Le.renA []) ?_ ?_)
      ·exact ⟨by dsimp only;omega,by dsimp only;omega⟩
      ·dsimp only;omega)
 ·have hie : i = l.length := by omega
  subst hie
  repeat' (first|refine aF ?_|(refine aU ?_ ?_ <;> intro hc hq <;> try (exfalso;omega))|fail)
  refine aO rfl ⟨?_,rfl⟩
  rw [List.take_length] at hz
  simp only [aQ,hz]
theorem GR (l:List AL.Stmt) (k:Int) (hs:aI l ≤ 1048576) (hk0:0 ≤ k) (hk:k + 4 * (aI l:Nat) ≤ 1000000000):PC Tryz.prog 51 [sl aB (iO k l),iv k] (fun r => r = iv (k + 4 * (aI l:Nat))):=by
 have key : ∀ (m : Nat), m ≤ 1048576 → ∀ (l : List AL.Stmt) (k : Int), aI l ≤ m → 0 ≤ k → k + 4 * (aI l : Nat) ≤ 1000000000 → PC Tryz.prog 51 [sl aB (iO k l), iv k] (fun r => r = iv (k + 4 * (aI l : Nat))) := by
  intro m
  induction m using Nat.strongRecOn with
  | ind m ih =>
   intro hm l k hl h0 hk
   exact EX m hm (fun l' k' h1 h2 h3 => ih (aI l') h1 (by omega) l' k' (Nat.le_refl _) h2 h3) l k hl h0 hk
 exact key (aI l) hs l k (Nat.le_refl _) hk0 hk
theorem rF (n:Nat) (b:List AL.Stmt) (k:Int) (hn:n ≤ 1048577) (hs:aI b ≤ 1048577) (hk0:0 ≤ k) (hk:k ≤ 1048576) (hs':aI b ≤ 1048576):PC Tryz.prog 18 [bY ⟨rJ k n,iO (k + n) b⟩,iv k] (fun r => r = iv (k + n + 4 * (aI b:Nat))):=by
 have c1 := yT n k hk0 (by omega)
 have c2 := GR b (k + n) hs' (by omega) (by omega)
 refine aC Tryz.func18 Tryz.ntmps18 ?_
 repeat' (first|(apply aH;first|(apply aA (k := 15);rfl;exact c1;exact Pur.pf;rfl)|(apply aA (k := 51);rfl;exact c2;exact Pur.pf;rfl))|refine aF ?_|(refine aU ?_ ?_ <;> intro hc hq <;> try (exfalso;omega))|fail)
 all_goals first
  | (exfalso;omega)
  | exact aO rfl ⟨rfl,rfl⟩
theorem ES (xs:List Int) (hl:xs.length ≤ 1048576):oY Tryz.prog 91 [sl cI xs] (fun r E => ∃ a c B,r = .v (.slice a xs.length c) ∧ E = [(.ints xs,.slice a xs.length c,B)]):=by
 (refine cC Tryz.func91 rfl (by simp [Tryz.ntmps91]) ?_; rw [Tryz.ntmps91])
 refine awt_lift ?_
 repeat' (first|(apply aH;(apply yJ;rfl;rfl;(intro b hb)))|refine aF ?_|(refine aU ?_ ?_ <;> intro hc hq <;> try (exfalso;omega))|fail)
 ·have h0 : xs = [] := List.eq_nil_of_length_eq_zero (hb (by assumption))
  subst h0
  exact GC rfl rfl rfl ⟨none,0,[],rfl,rfl⟩
 ·exact BK (L := xs) rfl rfl rfl (Nat.zero_add _) (fun a c B => ⟨a,c,B,rfl,rfl⟩)
theorem Hc (mm:Nat) (hmm:mm ≤ 1048576) (ih:∀ l,aI l < mm → oY Tryz.prog 92 [sl aB l] (fun r E => ∃ a c B,r = .v (.slice a l.length c) ∧ E = [(.stms l,.slice a l.length c,B)])) (l:List AL.Stmt) (hs:aI l ≤ mm):oY Tryz.prog 92 [sl aB l] (fun r E => ∃ a c B,r = .v (.slice a l.length c) ∧ E = [(.stms l,.slice a l.length c,B)]):=by
 have hlen := bR l
 (refine cC Tryz.func92 rfl (by simp [Tryz.ntmps92]) ?_; rw [Tryz.ntmps92])
 refine aR (awt_lift ?_)
 repeat' (first|refine aF ?_|fail)
 show cQ _ _ _ _ _ _
 refine aR (awt_lift ?_)
 repeat' (first|(apply aH;(apply fN (d := 3) (e := 6);rfl;rfl))|refine aF ?_|fail)
 show cQ _ _ _ _ _ _
 refine aR (aR (awt_lift ?_))
 repeat' (first|refine aF ?_|fail)
 show cQ _ _ _ _ _ _
 refine gU ?_
 refine oG (σ := Nat × List SX) [6,7] [(6,_),(7,_)] [] [] (fun k => [(8,iv (k.1 : Int)),(3,.own 0 0 k.1 6)]) (fun k => [(0,some (flat cT k.2))]) (fun k => dU k.2) (fun k => k.1 ≤ l.length ∧ k.2.length = k.1 ∧ k.2.map (·.1) = l.take k.1) (fun k => l.length - k.1) (0,[]) ⟨by omega,rfl,rfl⟩ (rfl) rfl rfl (by repeat' (first|exact trivial|refine And.intro rfl ?_)) (by repeat' (first|exact trivial|refine And.intro (.inr rfl) ?_)) ?_
 rintro ⟨k,u⟩ ⟨hk,hul,hu⟩
 dsimp only at hk hul hu ⊢
 refine aR (awt_lift ?_)
 repeat' (first|refine aF ?_|fail)
 show cQ _ _ _ _ _ _
 refine aR (gF rfl (fun hb => iI ?_) (fun hb => qP ?_))
 ·show cQ _ _ _ _ _ _
  have hkl : k < l.length := by have := of_decide_eq_true hb;omega
  have hck := cZ l k hkl
  have hct := dX l[k]!
  have c1 := ih l[k]!.th (by omega)
  have c2 := ih l[k]!.el (by omega)
  refine aR (gU ?_)
  refine aR (awt_lift ?_)
  repeat' (first|refine aF ?_|fail)
  show cQ _ _ _ _ _ _
  refine qU (σ := (Option Addr × Nat × List Nat) × (Option Addr × Nat × List Nat)) [3,5,6,7,8] [(3,_),(5,_),(6,_),(7,_),(8,_)] [0] [(0,some _)] 2 (fun y => []) (fun y => [(1,some [iv l[k]!.op,iv l[k]!.x,iv l[k]!.y,iv l[k]!.n,.v (.slice y.1.1 l[k]!.th.length y.1.2.1),.v (.slice y.2.1 l[k]!.el.length y.2.2.1)])]) (fun y => dU (u ++ [(l[k]!,(.slice y.1.1 l[k]!.th.length y.1.2.1,y.1.2.2),(.slice y.2.1 l[k]!.el.length y.2.2.1,y.2.2.2))])) rfl rfl (tO (by kernel_rfl) ?_) ?_
  ·refine kC (i := 0) (i' := 3) (o := ⟨_, _, _, _, _, _⟩) (o' := ⟨_, _, _, _, _, _⟩) (by kernel_rfl) rfl rfl ?_ ?_
   ·repeat' (first|refine aM ?_|fail)
    refine ⟨rfl,?_⟩
    refine kC (i := 1) (i' := 3) (o := ⟨_,_,_,_,_,_⟩) (o' := ⟨_,_,_,_,_,_⟩) (by kernel_rfl) rfl rfl ?_ ?_
    ·repeat' (first|refine aM ?_|fail)
     refine ⟨rfl,?_⟩
     refine j7 (i := 2) (i' := 3) (o := ⟨_,_,_,_,_,_⟩) (o' := ⟨_,_,_,_,_,_⟩) (by kernel_rfl) rfl rfl ?_ ?_
     ·refine aN rfl (.cons (.pur PurV.pf) .nil) c1 rfl ?_
      rintro _ _ ⟨a4,d4,B4,rfl,rfl⟩
      refine aJ ⟨rfl,?_⟩
      refine aS (i := 3) (o := ⟨_,_,_,_,_,_⟩) (by kernel_rfl) rfl ?_
      repeat' (first|refine aM ?_|fail)
      refine ⟨rfl,?_⟩
      refine aS (i := 4) (o := ⟨_,_,_,_,_,_⟩) (by kernel_rfl) rfl ?_
      repeat' (first|refine aM ?_|fail)
      refine ⟨rfl,?_⟩
      refine j7 (i := 5) (i' := 6) (o := ⟨_,_,_,_,_,_⟩) (o' := ⟨_,_,_,_,_,_⟩) (by kernel_rfl) rfl rfl ?_ ?_
      ·refine aN rfl (.cons (.pur PurV.pf) .nil) c2 rfl ?_
       rintro _ _ ⟨a5,d5,B5,rfl,rfl⟩
       refine aJ ⟨rfl,?_⟩
       refine aS (i := 6) (o := ⟨_,_,_,_,_,_⟩) (by kernel_rfl) rfl ?_
       repeat' (first|refine aM ?_|fail)
       refine ⟨rfl,?_⟩
       refine aS (i := 7) (o := ⟨_,_,_,_,_,_⟩) (by kernel_rfl) rfl ?_
       repeat' (first|refine aM ?_|fail)
       refine ⟨rfl,?_⟩
       refine aS (i := 8) (o := ⟨_,_,_,_,_,_⟩) (by kernel_rfl) rfl ?_
       repeat' (first|refine aM ?_|fail)
       refine ⟨rfl,?_⟩
       refine aS (i := 9) (o := ⟨_,_,_,_,_,_⟩) (by kernel_rfl) rfl ?_
       repeat' (first|refine aM ?_|fail)
       refine ⟨rfl,?_⟩
       refine eJ ⟨((a4,d4,B4),(a5,d5,B5)),lX,?_⟩ (by kernel_rfl)
       rw [bX]; simp
      ·refine cV ?_
       repeat' (first|refine aM ?_|fail)
       refine ⟨rfl,aJ ⟨rfl,?_⟩⟩
       refine dV (i := 5) (o := ⟨_,_,_,_,_,_⟩) (by kernel_rfl) rfl ?_
       refine aN rfl (.cons (.pur PurV.pf) .nil) c2 rfl ?_
       rintro _ _ ⟨a5,d5,B5,rfl,rfl⟩
       refine aJ ⟨rfl,?_⟩
       refine aS (i := 7) (o := ⟨_,_,_,_,_,_⟩) (by kernel_rfl) rfl ?_
       repeat' (first|refine aM ?_|fail)
       refine ⟨rfl,?_⟩
       refine aS (i := 8) (o := ⟨_,_,_,_,_,_⟩) (by kernel_rfl) rfl ?_
       repeat' (first|refine aM ?_|fail)
       refine ⟨rfl,?_⟩
       refine aS (i := 9) (o := ⟨_,_,_,_,_,_⟩) (by kernel_rfl) rfl ?_
       repeat' (first|refine aM ?_|fail)
       refine ⟨rfl,?_⟩
       refine eJ ⟨((a4,d4,B4),(a5,d5,B5)),lX,?_⟩ (by kernel_rfl)
       rw [bX]; simp
     ·refine cV ?_
      repeat' (first|refine aM ?_|fail)
      refine ⟨rfl,aJ ⟨rfl,?_⟩⟩
      refine j7 (i := 2) (i' := 4) (o := ⟨_,_,_,_,_,_⟩) (o' := ⟨_,_,_,_,_,_⟩) (by kernel_rfl) rfl rfl ?_ ?_
      ·refine aN rfl (.cons (.pur PurV.pf) .nil) c1 rfl ?_
       rintro _ _ ⟨a4,d4,B4,rfl,rfl⟩
       refine aJ ⟨rfl,?_⟩
       refine aS (i := 4) (o := ⟨_,_,_,_,_,_⟩) (by kernel_rfl) rfl ?_
       repeat' (first|refine aM ?_|fail)
       refine ⟨rfl,?_⟩
       refine j7 (i := 5) (i' := 6) (o := ⟨_,_,_,_,_,_⟩) (o' := ⟨_,_,_,_,_,_⟩) (by kernel_rfl) rfl rfl ?_ ?_
       ·refine aN rfl (.cons (.pur PurV.pf) .nil) c2 rfl ?_
        rintro _ _ ⟨a5,d5,B5,rfl,rfl⟩
        refine aJ ⟨rfl,?_⟩
        refine aS (i := 6) (o := ⟨_,_,_,_,_,_⟩) (by kernel_rfl) rfl ?_
        repeat' (first|refine aM ?_|fail)
        refine ⟨rfl,?_⟩
        refine aS (i := 7) (o := ⟨_,_,_,_,_,_⟩) (by kernel_rfl) rfl ?_
        repeat' (first|refine aM ?_|fail)
        refine ⟨rfl,?_⟩
        refine aS (i := 8) (o := ⟨_,_,_,_,_,_⟩) (by kernel_rfl) rfl ?_
        repeat' (first|refine aM ?_|fail)
        refine ⟨rfl,?_⟩
        refine aS (i := 9) (o := ⟨_,_,_,_,_,_⟩) (by kernel_rfl) rfl ?_
        repeat' (first|refine aM ?_|fail)
        refine ⟨rfl,?_⟩
        refine eJ ⟨((a4,d4,B4),(a5,d5,B5)),lX,?_⟩ (by kernel_rfl)
        rw [bX]; simp
       ·refine cV ?_
        repeat' (first|refine aM ?_|fail)
        refine ⟨rfl,aJ ⟨rfl,?_⟩⟩
        refine dV (i := 5) (o := ⟨_,_,_,_,_,_⟩) (by kernel_rfl) rfl ?_
        refine aN rfl (.cons (.pur PurV.pf) .nil) c2 rfl ?_
        rintro _ _ ⟨a5,d5,B5,rfl,rfl⟩
        refine aJ ⟨rfl,?_⟩
        refine aS (i := 7) (o := ⟨_,_,_,_,_,_⟩) (by kernel_rfl) rfl ?_
        repeat' (first|refine aM ?_|fail)
        refine ⟨rfl,?_⟩
        refine aS (i := 8) (o := ⟨_,_,_,_,_,_⟩) (by kernel_rfl) rfl ?_
        repeat' (first|refine aM ?_|fail)
        refine ⟨rfl,?_⟩
        refine aS (i := 9) (o := ⟨_,_,_,_,_,_⟩) (by kernel_rfl) rfl ?_
        repeat' (first|refine aM ?_|fail)
        refine ⟨rfl,?_⟩
        refine eJ ⟨((a4,d4,B4),(a5,d5,B5)),lX,?_⟩ (by kernel_rfl)
        rw [bX]; simp
      ·refine cV ?_
       repeat' (first|refine aM ?_|fail)
       refine ⟨rfl,aJ ⟨rfl,?_⟩⟩
       refine dV (i := 2) (o := ⟨_,_,_,_,_,_⟩) (by kernel_rfl) rfl ?_
       refine aN rfl (.cons (.pur PurV.pf) .nil) c1 rfl ?_
       rintro _ _ ⟨a4,d4,B4,rfl,rfl⟩
       refine aJ ⟨rfl,?_⟩
       refine j7 (i := 5) (i' := 6) (o := ⟨_,_,_,_,_,_⟩) (o' := ⟨_,_,_,_,_,_⟩) (by kernel_rfl) rfl rfl ?_ ?_
       ·refine aN rfl (.cons (.pur PurV.pf) .nil) c2 rfl ?_
        rintro _ _ ⟨a5,d5,B5,rfl,rfl⟩
        refine aJ ⟨rfl,?_⟩
        refine aS (i := 6) (o := ⟨_,_,_,_,_,_⟩) (by kernel_rfl) rfl ?_
        repeat' (first|refine aM ?_|fail)
        refine ⟨rfl,?_⟩
        refine aS (i := 7) (o := ⟨_,_,_,_,_,_⟩) (by kernel_rfl) rfl ?_
        repeat' (first|refine aM ?_|fail)
        refine ⟨rfl,?_⟩
        refine aS (i := 8) (o := ⟨_,_,_,_,_,_⟩) (by kernel_rfl) rfl ?_
        repeat' (first|refine aM ?_|fail)
        refine ⟨rfl,?_⟩
        refine aS (i := 9) (o := ⟨_,_,_,_,_,_⟩) (by kernel_rfl) rfl ?_
        repeat' (first|refine aM ?_|fail)
        refine ⟨rfl,?_⟩
        refine eJ ⟨((a4,d4,B4),(a5,d5,B5)),lX,?_⟩ (by kernel_rfl)
        rw [bX]; simp
       ·refine cV ?_
        repeat' (first|refine aM ?_|fail)
        refine ⟨rfl,aJ ⟨rfl,?_⟩⟩
        refine dV (i := 5) (o := ⟨_,_,_,_,_,_⟩) (by kernel_rfl) rfl ?_
        refine aN rfl (.cons (.pur PurV.pf) .nil) c2 rfl ?_
        rintro _ _ ⟨a5,d5,B5,rfl,rfl⟩
        refine aJ ⟨rfl,?_⟩
        refine aS (i := 7) (o := ⟨_,_,_,_,_,_⟩) (by kernel_rfl) rfl ?_
        repeat' (first|refine aM ?_|fail)
        refine ⟨rfl,?_⟩
        refine aS (i := 8) (o := ⟨_,_,_,_,_,_⟩) (by kernel_rfl) rfl ?_
        repeat' (first|refine aM ?_|fail)
        refine ⟨rfl,?_⟩
        refine aS (i := 9) (o := ⟨_,_,_,_,_,_⟩) (by kernel_rfl) rfl ?_
        repeat' (first|refine aM ?_|fail)
        refine ⟨rfl,?_⟩
        refine eJ ⟨((a4,d4,B4),(a5,d5,B5)),lX,?_⟩ (by kernel_rfl)
        rw [bX]; simp
    ·repeat' (first|refine aM ?_|fail)
     refine ⟨rfl,?_⟩
     refine kC (i := 1) (i' := 4) (o := ⟨_,_,_,_,_,_⟩) (o' := ⟨_,_,_,_,_,_⟩) (by kernel_rfl) rfl rfl ?_ ?_
     ·repeat' (first|refine aM ?_|fail)
      refine ⟨rfl,?_⟩
      refine j7 (i := 2) (i' := 4) (o := ⟨_,_,_,_,_,_⟩) (o' := ⟨_,_,_,_,_,_⟩) (by kernel_rfl) rfl rfl ?_ ?_
      ·refine aN rfl (.cons (.pur PurV.pf) .nil) c1 rfl ?_
       rintro _ _ ⟨a4,d4,B4,rfl,rfl⟩
       refine aJ ⟨rfl,?_⟩
       refine aS (i := 4) (o := ⟨_,_,_,_,_,_⟩) (by kernel_rfl) rfl ?_
       repeat' (first|refine aM ?_|fail)
       refine ⟨rfl,?_⟩
       refine j7 (i := 5) (i' := 6) (o := ⟨_,_,_,_,_,_⟩) (o' := ⟨_,_,_,_,_,_⟩) (by kernel_rfl) rfl rfl ?_ ?_
       ·refine aN rfl (.cons (.pur PurV.pf) .nil) c2 rfl ?_
        rintro _ _ ⟨a5,d5,B5,rfl,rfl⟩
        refine aJ ⟨rfl,?_⟩
        refine aS (i := 6) (o := ⟨_,_,_,_,_,_⟩) (by kernel_rfl) rfl ?_
        repeat' (first|refine aM ?_|fail)
        refine ⟨rfl,?_⟩
        refine aS (i := 7) (o := ⟨_,_,_,_,_,_⟩) (by kernel_rfl) rfl ?_
        repeat' (first|refine aM ?_|fail)
        refine ⟨rfl,?_⟩
        refine aS (i := 8) (o := ⟨_,_,_,_,_,_⟩) (by kernel_rfl) rfl ?_
        repeat' (first|refine aM ?_|fail)
        refine ⟨rfl,?_⟩
        refine aS (i := 9) (o := ⟨_,_,_,_,_,_⟩) (by kernel_rfl) rfl ?_
        repeat' (first|refine aM ?_|fail)
        refine ⟨rfl,?_⟩
        refine eJ ⟨((a4,d4,B4),(a5,d5,B5)),lX,?_⟩ (by kernel_rfl)
        rw [bX]; simp
       ·refine cV ?_
        repeat' (first|refine aM ?_|fail)
        refine ⟨rfl,aJ ⟨rfl,?_⟩⟩
        refine dV (i := 5) (o := ⟨_,_,_,_,_,_⟩) (by kernel_rfl) rfl ?_
        refine aN rfl (.cons (.pur PurV.pf) .nil) c2 rfl ?_
        rintro _ _ ⟨a5,d5,B5,rfl,rfl⟩
        refine aJ ⟨rfl,?_⟩
        refine aS (i := 7) (o := ⟨_,_,_,_,_,_⟩) (by kernel_rfl) rfl ?_
        repeat' (first|refine aM ?_|fail)
        refine ⟨rfl,?_⟩
        refine aS (i := 8) (o := ⟨_,_,_,_,_,_⟩) (by kernel_rfl) rfl ?_
        repeat' (first|refine aM ?_|fail)
        refine ⟨rfl,?_⟩
        refine aS (i := 9) (o := ⟨_,_,_,_,_,_⟩) (by kernel_rfl) rfl ?_
        repeat' (first|refine aM ?_|fail)
        refine ⟨rfl,?_⟩
        refine eJ ⟨((a4,d4,B4),(a5,d5,B5)),lX,?_⟩ (by kernel_rfl)
        rw [bX]; simp
      ·refine cV ?_
       repeat' (first|refine aM ?_|fail)
       refine ⟨rfl,aJ ⟨rfl,?_⟩⟩
       refine dV (i := 2) (o := ⟨_,_,_,_,_,_⟩) (by kernel_rfl) rfl ?_
       refine aN rfl (.cons (.pur PurV.pf) .nil) c1 rfl ?_
       rintro _ _ ⟨a4,d4,B4,rfl,rfl⟩
       refine aJ ⟨rfl,?_⟩
       refine j7 (i := 5) (i' := 6) (o := ⟨_,_,_,_,_,_⟩) (o' := ⟨_,_,_,_,_,_⟩) (by kernel_rfl) rfl rfl ?_ ?_
       ·refine aN rfl (.cons (.pur PurV.pf) .nil) c2 rfl ?_
        rintro _ _ ⟨a5,d5,B5,rfl,rfl⟩
        refine aJ ⟨rfl,?_⟩
        refine aS (i := 6) (o := ⟨_,_,_,_,_,_⟩) (by kernel_rfl) rfl ?_
        repeat' (first|refine aM ?_|fail)
        refine ⟨rfl,?_⟩
        refine aS (i := 7) (o := ⟨_,_,_,_,_,_⟩) (by kernel_rfl) rfl ?_
        repeat' (first|refine aM ?_|fail)
        refine ⟨rfl,?_⟩
        refine aS (i := 8) (o := ⟨_,_,_,_,_,_⟩) (by kernel_rfl) rfl ?_
        repeat' (first|refine aM ?_|fail)
        refine ⟨rfl,?_⟩
        refine aS (i := 9) (o := ⟨_,_,_,_,_,_⟩) (by kernel_rfl) rfl ?_
        repeat' (first|refine aM ?_|fail)
        refine ⟨rfl,?_⟩
        refine eJ ⟨((a4,d4,B4),(a5,d5,B5)),lX,?_⟩ (by kernel_rfl)
        rw [bX]; simp
       ·refine cV ?_
        repeat' (first|refine aM ?_|fail)
        refine ⟨rfl,aJ ⟨rfl,?_⟩⟩
        refine dV (i := 5) (o := ⟨_,_,_,_,_,_⟩) (by kernel_rfl) rfl ?_
        refine aN rfl (.cons (.pur PurV.pf) .nil) c2 rfl ?_
        rintro _ _ ⟨a5,d5,B5,rfl,rfl⟩
        refine aJ ⟨rfl,?_⟩
        refine aS (i := 7) (o := ⟨_,_,_,_,_,_⟩) (by kernel_rfl) rfl ?_
        repeat' (first|refine aM ?_|fail)
        refine ⟨rfl,?_⟩
        refine aS (i := 8) (o := ⟨_,_,_,_,_,_⟩) (by kernel_rfl) rfl ?_
        repeat' (first|refine aM ?_|fail)
        refine ⟨rfl,?_⟩
        refine aS (i := 9) (o := ⟨_,_,_,_,_,_⟩) (by kernel_rfl) rfl ?_
        repeat' (first|refine aM ?_|fail)
        refine ⟨rfl,?_⟩
        refine eJ ⟨((a4,d4,B4),(a5,d5,B5)),lX,?_⟩ (by kernel_rfl)
        rw [bX]; simp
     ·repeat' (first|refine aM ?_|fail)
      refine ⟨rfl,?_⟩
      refine aS (i := 1) (o := ⟨_,_,_,_,_,_⟩) (by kernel_rfl) rfl ?_
      repeat' (first|refine aM ?_|fail)
      refine ⟨rfl,?_⟩
      refine dV (i := 2) (o := ⟨_,_,_,_,_,_⟩) (by kernel_rfl) rfl ?_
      refine aN rfl (.cons (.pur PurV.pf) .nil) c1 rfl ?_
      rintro _ _ ⟨a4,d4,B4,rfl,rfl⟩
      refine aJ ⟨rfl,?_⟩
      refine j7 (i := 5) (i' := 6) (o := ⟨_,_,_,_,_,_⟩) (o' := ⟨_,_,_,_,_,_⟩) (by kernel_rfl) rfl rfl ?_ ?_
      ·refine aN rfl (.cons (.pur PurV.pf) .nil) c2 rfl ?_
       rintro _ _ ⟨a5,d5,B5,rfl,rfl⟩
       refine aJ ⟨rfl,?_⟩
       refine aS (i := 6) (o := ⟨_,_,_,_,_,_⟩) (by kernel_rfl) rfl ?_
       repeat' (first|refine aM ?_|fail)
       refine ⟨rfl,?_⟩
       refine aS (i := 7) (o := ⟨_,_,_,_,_,_⟩) (by kernel_rfl) rfl ?_
       repeat' (first|refine aM ?_|fail)
       refine ⟨rfl,?_⟩
       refine aS (i := 8) (o := ⟨_,_,_,_,_,_⟩) (by kernel_rfl) rfl ?_
       repeat' (first|refine aM ?_|fail)
       refine ⟨rfl,?_⟩
       refine aS (i := 9) (o := ⟨_,_,_,_,_,_⟩) (by kernel_rfl) rfl ?_
       repeat' (first|refine aM ?_|fail)
       refine ⟨rfl,?_⟩
       refine eJ ⟨((a4,d4,B4),(a5,d5,B5)),lX,?_⟩ (by kernel_rfl)
       rw [bX]; simp
      ·refine cV ?_
       repeat' (first|refine aM ?_|fail)
       refine ⟨rfl,aJ ⟨rfl,?_⟩⟩
       refine dV (i := 5) (o := ⟨_,_,_,_,_,_⟩) (by kernel_rfl) rfl ?_
       refine aN rfl (.cons (.pur PurV.pf) .nil) c2 rfl ?_
       rintro _ _ ⟨a5,d5,B5,rfl,rfl⟩
       refine aJ ⟨rfl,?_⟩
       refine aS (i := 7) (o := ⟨_,_,_,_,_,_⟩) (by kernel_rfl) rfl ?_
       repeat' (first|refine aM ?_|fail)
       refine ⟨rfl,?_⟩
       refine aS (i := 8) (o := ⟨_,_,_,_,_,_⟩) (by kernel_rfl) rfl ?_
       repeat' (first|refine aM ?_|fail)
       refine ⟨rfl,?_⟩
       refine aS (i := 9) (o := ⟨_,_,_,_,_,_⟩) (by kernel_rfl) rfl ?_
       repeat' (first|refine aM ?_|fail)
       refine ⟨rfl,?_⟩
       refine eJ ⟨((a4,d4,B4),(a5,d5,B5)),lX,?_⟩ (by kernel_rfl)
       rw [bX]; simp
   ·repeat' (first|refine aM ?_|fail)
    refine ⟨rfl,?_⟩
    refine kC (i := 0) (i' := 4) (o := ⟨_,_,_,_,_,_⟩) (o' := ⟨_,_,_,_,_,_⟩) (by kernel_rfl) rfl rfl ?_ ?_
    ·repeat' (first|refine aM ?_|fail)
     refine ⟨rfl,?_⟩
     refine kC (i := 1) (i' := 4) (o := ⟨_,_,_,_,_,_⟩) (o' := ⟨_,_,_,_,_,_⟩) (by kernel_rfl) rfl rfl ?_ ?_
     ·repeat' (first|refine aM ?_|fail)
      refine ⟨rfl,?_⟩
      refine j7 (i := 2) (i' := 4) (o := ⟨_,_,_,_,_,_⟩) (o' := ⟨_,_,_,_,_,_⟩) (by kernel_rfl) rfl rfl ?_ ?_
      ·refine aN rfl (.cons (.pur PurV.pf) .nil) c1 rfl ?_
       rintro _ _ ⟨a4,d4,B4,rfl,rfl⟩
       refine aJ ⟨rfl,?_⟩
       refine aS (i := 4) (o := ⟨_,_,_,_,_,_⟩) (by kernel_rfl) rfl ?_
       repeat' (first|refine aM ?_|fail)
       refine ⟨rfl,?_⟩
       refine j7 (i := 5) (i' := 6) (o := ⟨_,_,_,_,_,_⟩) (o' := ⟨_,_,_,_,_,_⟩) (by kernel_rfl) rfl rfl ?_ ?_
       ·refine aN rfl (.cons (.pur PurV.pf) .nil) c2 rfl ?_
        rintro _ _ ⟨a5,d5,B5,rfl,rfl⟩
        refine aJ ⟨rfl,?_⟩
        refine aS (i := 6) (o := ⟨_,_,_,_,_,_⟩) (by kernel_rfl) rfl ?_
        repeat' (first|refine aM ?_|fail)
        refine ⟨rfl,?_⟩
        refine aS (i := 7) (o := ⟨_,_,_,_,_,_⟩) (by kernel_rfl) rfl ?_
        repeat' (first|refine aM ?_|fail)
        refine ⟨rfl,?_⟩
        refine aS (i := 8) (o := ⟨_,_,_,_,_,_⟩) (by kernel_rfl) rfl ?_
        repeat' (first|refine aM ?_|fail)
        refine ⟨rfl,?_⟩
        refine aS (i := 9) (o := ⟨_,_,_,_,_,_⟩) (by kernel_rfl) rfl ?_
        repeat' (first|refine aM ?_|fail)
        refine ⟨rfl,?_⟩
        refine eJ ⟨((a4,d4,B4),(a5,d5,B5)),lX,?_⟩ (by kernel_rfl)
        rw [bX]; simp
       ·refine cV ?_
        repeat' (first|refine aM ?_|fail)
        refine ⟨rfl,aJ ⟨rfl,?_⟩⟩
        refine dV (i := 5) (o := ⟨_,_,_,_,_,_⟩) (by kernel_rfl) rfl ?_
        refine aN rfl (.cons (.pur PurV.pf) .nil) c2 rfl ?_
        rintro _ _ ⟨a5,d5,B5,rfl,rfl⟩
        refine aJ ⟨rfl,?_⟩
        refine aS (i := 7) (o := ⟨_,_,_,_,_,_⟩) (by kernel_rfl) rfl ?_
        repeat' (first|refine aM ?_|fail)
        refine ⟨rfl,?_⟩
        refine aS (i := 8) (o := ⟨_,_,_,_,_,_⟩) (by kernel_rfl) rfl ?_
        repeat' (first|refine aM ?_|fail)
        refine ⟨rfl,?_⟩
        refine aS (i := 9) (o := ⟨_,_,_,_,_,_⟩) (by kernel_rfl) rfl ?_
        repeat' (first|refine aM ?_|fail)
        refine ⟨rfl,?_⟩
        refine eJ ⟨((a4,d4,B4),(a5,d5,B5)),lX,?_⟩ (by kernel_rfl)
        rw [bX]; simp
      ·refine cV ?_
       repeat' (first|refine aM ?_|fail)
       refine ⟨rfl,aJ ⟨rfl,?_⟩⟩
       refine dV (i := 2) (o := ⟨_,_,_,_,_,_⟩) (by kernel_rfl) rfl ?_
       refine aN rfl (.cons (.pur PurV.pf) .nil) c1 rfl ?_
       rintro _ _ ⟨a4,d4,B4,rfl,rfl⟩
       refine aJ ⟨rfl,?_⟩
       refine j7 (i := 5) (i' := 6) (o := ⟨_,_,_,_,_,_⟩) (o' := ⟨_,_,_,_,_,_⟩) (by kernel_rfl) rfl rfl ?_ ?_
       ·refine aN rfl (.cons (.pur PurV.pf) .nil) c2 rfl ?_
        rintro _ _ ⟨a5,d5,B5,rfl,rfl⟩
        refine aJ ⟨rfl,?_⟩
        refine aS (i := 6) (o := ⟨_,_,_,_,_,_⟩) (by kernel_rfl) rfl ?_
        repeat' (first|refine aM ?_|fail)
        refine ⟨rfl,?_⟩
        refine aS (i := 7) (o := ⟨_,_,_,_,_,_⟩) (by kernel_rfl) rfl ?_
        repeat' (first|refine aM ?_|fail)
        refine ⟨rfl,?_⟩
        refine aS (i := 8) (o := ⟨_,_,_,_,_,_⟩) (by kernel_rfl) rfl ?_
        repeat' (first|refine aM ?_|fail)
        refine ⟨rfl,?_⟩
        refine aS (i := 9) (o := ⟨_,_,_,_,_,_⟩) (by kernel_rfl) rfl ?_
        repeat' (first|refine aM ?_|fail)
        refine ⟨rfl,?_⟩
        refine eJ ⟨((a4,d4,B4),(a5,d5,B5)),lX,?_⟩ (by kernel_rfl)
        rw [bX]; simp
       ·refine cV ?_
        repeat' (first|refine aM ?_|fail)
        refine ⟨rfl,aJ ⟨rfl,?_⟩⟩
        refine dV (i := 5) (o := ⟨_,_,_,_,_,_⟩) (by kernel_rfl) rfl ?_
        refine aN rfl (.cons (.pur PurV.pf) .nil) c2 rfl ?_
        rintro _ _ ⟨a5,d5,B5,rfl,rfl⟩
        refine aJ ⟨rfl,?_⟩
        refine aS (i := 7) (o := ⟨_,_,_,_,_,_⟩) (by kernel_rfl) rfl ?_
        repeat' (first|refine aM ?_|fail)
        refine ⟨rfl,?_⟩
        refine aS (i := 8) (o := ⟨_,_,_,_,_,_⟩) (by kernel_rfl) rfl ?_
        repeat' (first|refine aM ?_|fail)
        refine ⟨rfl,?_⟩
        refine aS (i := 9) (o := ⟨_,_,_,_,_,_⟩) (by kernel_rfl) rfl ?_
        repeat' (first|refine aM ?_|fail)
        refine ⟨rfl,?_⟩
        refine eJ ⟨((a4,d4,B4),(a5,d5,B5)),lX,?_⟩ (by kernel_rfl)
        rw [bX]; simp
     ·repeat' (first|refine aM ?_|fail)
      refine ⟨rfl,?_⟩
      refine aS (i := 1) (o := ⟨_,_,_,_,_,_⟩) (by kernel_rfl) rfl ?_
      repeat' (first|refine aM ?_|fail)
      refine ⟨rfl,?_⟩
      refine dV (i := 2) (o := ⟨_,_,_,_,_,_⟩) (by kernel_rfl) rfl ?_
      refine aN rfl (.cons (.pur PurV.pf) .nil) c1 rfl ?_
      rintro _ _ ⟨a4,d4,B4,rfl,rfl⟩
      refine aJ ⟨rfl,?_⟩
      refine j7 (i := 5) (i' := 6) (o := ⟨_,_,_,_,_,_⟩) (o' := ⟨_,_,_,_,_,_⟩) (by kernel_rfl) rfl rfl ?_ ?_
      ·refine aN rfl (.cons (.pur PurV.pf) .nil) c2 rfl ?_
       rintro _ _ ⟨a5,d5,B5,rfl,rfl⟩
       refine aJ ⟨rfl,?_⟩
       refine aS (i := 6) (o := ⟨_,_,_,_,_,_⟩) (by kernel_rfl) rfl ?_
       repeat' (first|refine aM ?_|fail)
       refine ⟨rfl,?_⟩
       refine aS (i := 7) (o := ⟨_,_,_,_,_,_⟩) (by kernel_rfl) rfl ?_
       repeat' (first|refine aM ?_|fail)
       refine ⟨rfl,?_⟩
       refine aS (i := 8) (o := ⟨_,_,_,_,_,_⟩) (by kernel_rfl) rfl ?_
       repeat' (first|refine aM ?_|fail)
       refine ⟨rfl,?_⟩
       refine aS (i := 9) (o := ⟨_,_,_,_,_,_⟩) (by kernel_rfl) rfl ?_
       repeat' (first|refine aM ?_|fail)
       refine ⟨rfl,?_⟩
       refine eJ ⟨((a4,d4,B4),(a5,d5,B5)),lX,?_⟩ (by kernel_rfl)
       rw [bX]; simp
      ·refine cV ?_
       repeat' (first|refine aM ?_|fail)
       refine ⟨rfl,aJ ⟨rfl,?_⟩⟩
       refine dV (i := 5) (o := ⟨_,_,_,_,_,_⟩) (by kernel_rfl) rfl ?_
       refine aN rfl (.cons (.pur PurV.pf) .nil) c2 rfl ?_
       rintro _ _ ⟨a5,d5,B5,rfl,rfl⟩
       refine aJ ⟨rfl,?_⟩
       refine aS (i := 7) (o := ⟨_,_,_,_,_,_⟩) (by kernel_rfl) rfl ?_
       repeat' (first|refine aM ?_|fail)
       refine ⟨rfl,?_⟩
       refine aS (i := 8) (o := ⟨_,_,_,_,_,_⟩) (by kernel_rfl) rfl ?_
       repeat' (first|refine aM ?_|fail)
       refine ⟨rfl,?_⟩
       refine aS (i := 9) (o := ⟨_,_,_,_,_,_⟩) (by kernel_rfl) rfl ?_
       repeat' (first|refine aM ?_|fail)
       refine ⟨rfl,?_⟩
       refine eJ ⟨((a4,d4,B4),(a5,d5,B5)),lX,?_⟩ (by kernel_rfl)
       rw [bX]; simp
    ·repeat' (first|refine aM ?_|fail)
     refine ⟨rfl,?_⟩
     refine aS (i := 0) (o := ⟨_,_,_,_,_,_⟩) (by kernel_rfl) rfl ?_
     repeat' (first|refine aM ?_|fail)
     refine ⟨rfl,?_⟩
     refine aS (i := 1) (o := ⟨_,_,_,_,_,_⟩) (by kernel_rfl) rfl ?_
     repeat' (first|refine aM ?_|fail)
     refine ⟨rfl,?_⟩
     refine dV (i := 2) (o := ⟨_,_,_,_,_,_⟩) (by kernel_rfl) rfl ?_
     refine aN rfl (.cons (.pur PurV.pf) .nil) c1 rfl ?_
     rintro _ _ ⟨a4,d4,B4,rfl,rfl⟩
     refine aJ ⟨rfl,?_⟩
     refine j7 (i := 5) (i' := 6) (o := ⟨_,_,_,_,_,_⟩) (o' := ⟨_,_,_,_,_,_⟩) (by kernel_rfl) rfl rfl ?_ ?_
     ·refine aN rfl (.cons (.pur PurV.pf) .nil) c2 rfl ?_
      rintro _ _ ⟨a5,d5,B5,rfl,rfl⟩
      refine aJ ⟨rfl,?_⟩
      refine aS (i := 6) (o := ⟨_,_,_,_,_,_⟩) (by kernel_rfl) rfl ?_
      repeat' (first|refine aM ?_|fail)
      refine ⟨rfl,?_⟩
      refine aS (i := 7) (o := ⟨_,_,_,_,_,_⟩) (by kernel_rfl) rfl ?_
      repeat' (first|refine aM ?_|fail)
      refine ⟨rfl,?_⟩
      refine aS (i := 8) (o := ⟨_,_,_,_,_,_⟩) (by kernel_rfl) rfl ?_
      repeat' (first|refine aM ?_|fail)
      refine ⟨rfl,?_⟩
      refine aS (i := 9) (o := ⟨_,_,_,_,_,_⟩) (by kernel_rfl) rfl ?_
      repeat' (first|refine aM ?_|fail)
      refine ⟨rfl,?_⟩
      refine eJ ⟨((a4,d4,B4),(a5,d5,B5)),lX,?_⟩ (by kernel_rfl)
      rw [bX]; simp
     ·refine cV ?_
      repeat' (first|refine aM ?_|fail)
      refine ⟨rfl,aJ ⟨rfl,?_⟩⟩
      refine dV (i := 5) (o := ⟨_,_,_,_,_,_⟩) (by kernel_rfl) rfl ?_
      refine aN rfl (.cons (.pur PurV.pf) .nil) c2 rfl ?_
      rintro _ _ ⟨a5,d5,B5,rfl,rfl⟩
      refine aJ ⟨rfl,?_⟩
      refine aS (i := 7) (o := ⟨_,_,_,_,_,_⟩) (by kernel_rfl) rfl ?_
      repeat' (first|refine aM ?_|fail)
      refine ⟨rfl,?_⟩
      refine aS (i := 8) (o := ⟨_,_,_,_,_,_⟩) (by kernel_rfl) rfl ?_
      repeat' (first|refine aM ?_|fail)
      refine ⟨rfl,?_⟩
      refine aS (i := 9) (o := ⟨_,_,_,_,_,_⟩) (by kernel_rfl) rfl ?_
      repeat' (first|refine aM ?_|fail)
      refine ⟨rfl,?_⟩
      refine eJ ⟨((a4,d4,B4),(a5,d5,B5)),lX,?_⟩ (by kernel_rfl)
      rw [bX]; simp
  rintro ⟨⟨a4,d4,B4⟩,⟨a5,d5,B5⟩⟩
  have apT := fun hm => JW (xs := u) (m := k) ((l[k]!,(.slice a4 l[k]!.th.length d4,B4),(.slice a5 l[k]!.el.length d5,B5)) : SX) hm
  show cQ _ _ _ _ _ _
  refine awt_lift ?_
  repeat' (first|(apply aH;(apply cY;rfl;rfl;rfl;rfl;rfl;(rw [aK]; omega);(rfl);omega;omega;(exact apT (by (omega)));rfl;rfl))|refine aF ?_|fail)
  show cQ _ _ _ _ _ _
  refine awt_lift ?_
  repeat' (first|refine aF ?_|fail)
  refine ⟨(k + 1,u ++ [((l[k]!,(.slice a4 l[k]!.th.length d4,B4),(.slice a5 l[k]!.el.length d5,B5)) : SX)]),⟨by dsimp only;omega,by simp [hul],?_⟩,by dsimp only;omega,?_,rfl⟩
  ·dsimp only;rw [List.map_append,hu,bQ l k hkl]; rfl
  ·refine Le.ren [(0,3)] rfl (by decide) ?_ ?_ <;> repeat' (first|exact trivial|refine And.intro ⟨_,rfl,?_⟩ ?_|refine And.intro ⟨_,_,rfl,rfl,?_⟩ ?_|exact Or.inr rfl|refine Or.inl ⟨?_,(by first|rfl|exact bD _ _)⟩|rfl)
 ·show cQ _ _ _ _ _ _
  have hkl : k = l.length := by have := of_decide_eq_false hb;omega
  have e : u.map (·.1) = l := by rw [hu,hkl,List.take_length]
  refine awt_lift ?_
  repeat' (first|refine aF ?_|fail)
  refine AZ (xs := u) rfl rfl rfl hul.symm (fun a c B => ⟨a,c,B,?_,?_⟩)
  ·rw [hul,hkl]
  ·rw [e,hul,hkl]
theorem Iz (l:List AL.Stmt) (hs:aI l ≤ 1048576):oY Tryz.prog 92 [sl aB l] (fun r E => ∃ a c B,r = .v (.slice a l.length c) ∧ E = [(.stms l,.slice a l.length c,B)]):=by
 have key : ∀ (m : Nat), m ≤ 1048576 → ∀ l : List AL.Stmt, aI l ≤ m → oY Tryz.prog 92 [sl aB l] (fun r E => ∃ a c B, r = .v (.slice a l.length c) ∧ E = [(.stms l, .slice a l.length c, B)]) := by
  intro m
  induction m using Nat.strongRecOn with
  | ind m ih =>
   intro hm l hl
   exact Hc m hm (fun l' h1 => ih (aI l') h1 (by omega) l' (Nat.le_refl _)) l hl
 exact key _ hs l (Nat.le_refl _)
theorem Ip (p:Prg) (hl:p.types.length ≤ 1048576) (hs:aI p.body ≤ 1048576):oY Tryz.prog 46 [bY p] (fun r E => ∃ a4 c4 B4 a5 c5 B5,r = .agg [.v (.slice a4 p.types.length c4),.v (.slice a5 p.body.length c5)] ∧ E = [(.ints p.types,.slice a4 p.types.length c4,B4),(.stms p.body,.slice a5 p.body.length c5,B5)]):=by
 have c1 := ES p.types hl
 have c2 := Iz p.body hs
 (refine cC Tryz.func46 rfl (by simp [Tryz.ntmps46]) ?_; rw [Tryz.ntmps46])
 refine aR (awt_lift ?_)
 repeat' (first|refine aF ?_|fail)
 show cQ _ _ _ _ _ _
 refine qU (σ := (Option Addr × Nat × List Nat) × (Option Addr × Nat × List Nat)) [2] [(2,_)] [] [] 2 (fun y => []) (fun y => [(1,some [.v (.slice y.1.1 p.types.length y.1.2.1),.v (.slice y.2.1 p.body.length y.2.2.1)])]) (fun y => [(.ints p.types,.slice y.1.1 p.types.length y.1.2.1,y.1.2.2),(.stms p.body,.slice y.2.1 p.body.length y.2.2.1,y.2.2.2)]) rfl rfl (tO (by kernel_rfl) ?_) ?_
 ·refine kC (i := 0) (i' := 3) (o := ⟨_, _, _, _, _, _⟩) (o' := ⟨_, _, _, _, _, _⟩) (by kernel_rfl) rfl rfl ?_ ?_
  ·repeat' (first|refine aM ?_|fail)
   refine ⟨rfl,?_⟩
   refine kC (i := 1) (i' := 3) (o := ⟨_,_,_,_,_,_⟩) (o' := ⟨_,_,_,_,_,_⟩) (by kernel_rfl) rfl rfl ?_ ?_
   ·repeat' (first|refine aM ?_|fail)
    refine ⟨rfl,?_⟩
    refine j7 (i := 2) (i' := 3) (o := ⟨_,_,_,_,_,_⟩) (o' := ⟨_,_,_,_,_,_⟩) (by kernel_rfl) rfl rfl ?_ ?_
    ·refine aN rfl (.cons (.pur PurV.pf) .nil) c1 rfl ?_
     rintro _ _ ⟨a4,d4,B4,rfl,rfl⟩
     refine aJ ⟨rfl,?_⟩
     refine aS (i := 3) (o := ⟨_,_,_,_,_,_⟩) (by kernel_rfl) rfl ?_
     repeat' (first|refine aM ?_|fail)
     refine ⟨rfl,?_⟩
     refine aS (i := 4) (o := ⟨_,_,_,_,_,_⟩) (by kernel_rfl) rfl ?_
     repeat' (first|refine aM ?_|fail)
     refine ⟨rfl,?_⟩
     refine dV (i := 5) (o := ⟨_,_,_,_,_,_⟩) (by kernel_rfl) rfl ?_
     refine aN rfl (.cons (.pur PurV.pf) .nil) c2 rfl ?_
     rintro _ _ ⟨a5,d5,B5,rfl,rfl⟩
     refine aJ ⟨rfl,?_⟩
     refine aS (i := 6) (o := ⟨_,_,_,_,_,_⟩) (by kernel_rfl) rfl ?_
     repeat' (first|(apply aH;(apply b6 (d := 9);rfl;exact (rfl:_=some [_,_]);rfl))|refine aM ?_|fail)
     refine ⟨rfl,?_⟩
     refine aS (i := 7) (o := ⟨_,_,_,_,_,_⟩) (by kernel_rfl) rfl ?_
     repeat' (first|refine aM ?_|fail)
     refine ⟨rfl,?_⟩
     exact eJ ⟨((a4,d4,B4),(a5,d5,B5)),lX,rfl⟩ (by kernel_rfl)
    ·refine cV ?_
     repeat' (first|refine aM ?_|fail)
     refine ⟨rfl,aJ ⟨rfl,?_⟩⟩
     refine j7 (i := 2) (i' := 4) (o := ⟨_,_,_,_,_,_⟩) (o' := ⟨_,_,_,_,_,_⟩) (by kernel_rfl) rfl rfl ?_ ?_
     ·refine aN rfl (.cons (.pur PurV.pf) .nil) c1 rfl ?_
      rintro _ _ ⟨a4,d4,B4,rfl,rfl⟩
      refine aJ ⟨rfl,?_⟩
      refine aS (i := 4) (o := ⟨_,_,_,_,_,_⟩) (by kernel_rfl) rfl ?_
      repeat' (first|refine aM ?_|fail)
      refine ⟨rfl,?_⟩
      refine dV (i := 5) (o := ⟨_,_,_,_,_,_⟩) (by kernel_rfl) rfl ?_
      refine aN rfl (.cons (.pur PurV.pf) .nil) c2 rfl ?_
      rintro _ _ ⟨a5,d5,B5,rfl,rfl⟩
      refine aJ ⟨rfl,?_⟩
      refine aS (i := 6) (o := ⟨_,_,_,_,_,_⟩) (by kernel_rfl) rfl ?_
      repeat' (first|(apply aH;(apply b6 (d := 9);rfl;exact (rfl:_=some [_,_]);rfl))|refine aM ?_|fail)
      refine ⟨rfl,?_⟩
      refine aS (i := 7) (o := ⟨_,_,_,_,_,_⟩) (by kernel_rfl) rfl ?_
      repeat' (first|refine aM ?_|fail)
      refine ⟨rfl,?_⟩
      exact eJ ⟨((a4,d4,B4),(a5,d5,B5)),lX,rfl⟩ (by kernel_rfl)
     ·refine cV ?_
      repeat' (first|refine aM ?_|fail)
      refine ⟨rfl,aJ ⟨rfl,?_⟩⟩
      refine dV (i := 2) (o := ⟨_,_,_,_,_,_⟩) (by kernel_rfl) rfl ?_
      refine aN rfl (.cons (.pur PurV.pf) .nil) c1 rfl ?_
      rintro _ _ ⟨a4,d4,B4,rfl,rfl⟩
      refine aJ ⟨rfl,?_⟩
      refine dV (i := 5) (o := ⟨_,_,_,_,_,_⟩) (by kernel_rfl) rfl ?_
      refine aN rfl (.cons (.pur PurV.pf) .nil) c2 rfl ?_
      rintro _ _ ⟨a5,d5,B5,rfl,rfl⟩
      refine aJ ⟨rfl,?_⟩
      refine aS (i := 6) (o := ⟨_,_,_,_,_,_⟩) (by kernel_rfl) rfl ?_
      repeat' (first|(apply aH;(apply b6 (d := 9);rfl;exact (rfl:_=some [_,_]);rfl))|refine aM ?_|fail)
      refine ⟨rfl,?_⟩
      refine aS (i := 7) (o := ⟨_,_,_,_,_,_⟩) (by kernel_rfl) rfl ?_
      repeat' (first|refine aM ?_|fail)
      refine ⟨rfl,?_⟩
      exact eJ ⟨((a4,d4,B4),(a5,d5,B5)),lX,rfl⟩ (by kernel_rfl)
   ·repeat' (first|refine aM ?_|fail)
    refine ⟨rfl,?_⟩
    refine kC (i := 1) (i' := 4) (o := ⟨_,_,_,_,_,_⟩) (o' := ⟨_,_,_,_,_,_⟩) (by kernel_rfl) rfl rfl ?_ ?_
    ·repeat' (first|refine aM ?_|fail)
     refine ⟨rfl,?_⟩
     refine j7 (i := 2) (i' := 4) (o := ⟨_,_,_,_,_,_⟩) (o' := ⟨_,_,_,_,_,_⟩) (by kernel_rfl) rfl rfl ?_ ?_
     ·refine aN rfl (.cons (.pur PurV.pf) .nil) c1 rfl ?_
      rintro _ _ ⟨a4,d4,B4,rfl,rfl⟩
      refine aJ ⟨rfl,?_⟩
      refine aS (i := 4) (o := ⟨_,_,_,_,_,_⟩) (by kernel_rfl) rfl ?_
      repeat' (first|refine aM ?_|fail)
      refine ⟨rfl,?_⟩
      refine dV (i := 5) (o := ⟨_,_,_,_,_,_⟩) (by kernel_rfl) rfl ?_
      refine aN rfl (.cons (.pur PurV.pf) .nil) c2 rfl ?_
      rintro _ _ ⟨a5,d5,B5,rfl,rfl⟩
      refine aJ ⟨rfl,?_⟩
      refine aS (i := 6) (o := ⟨_,_,_,_,_,_⟩) (by kernel_rfl) rfl ?_
      repeat' (first|(apply aH;(apply b6 (d := 9);rfl;exact (rfl:_=some [_,_]);rfl))|refine aM ?_|fail)
      refine ⟨rfl,?_⟩
      refine aS (i := 7) (o := ⟨_,_,_,_,_,_⟩) (by kernel_rfl) rfl ?_
      repeat' (first|refine aM ?_|fail)
      refine ⟨rfl,?_⟩
      exact eJ ⟨((a4,d4,B4),(a5,d5,B5)),lX,rfl⟩ (by kernel_rfl)
     ·refine cV ?_
      repeat' (first|refine aM ?_|fail)
      refine ⟨rfl,aJ ⟨rfl,?_⟩⟩
      refine dV (i := 2) (o := ⟨_,_,_,_,_,_⟩) (by kernel_rfl) rfl ?_
      refine aN rfl (.cons (.pur PurV.pf) .nil) c1 rfl ?_
      rintro _ _ ⟨a4,d4,B4,rfl,rfl⟩
      refine aJ ⟨rfl,?_⟩
      refine dV (i := 5) (o := ⟨_,_,_,_,_,_⟩) (by kernel_rfl) rfl ?_
      refine aN rfl (.cons (.pur PurV.pf) .nil) c2 rfl ?_
      rintro _ _ ⟨a5,d5,B5,rfl,rfl⟩
      refine aJ ⟨rfl,?_⟩
      refine aS (i := 6) (o := ⟨_,_,_,_,_,_⟩) (by kernel_rfl) rfl ?_
      repeat' (first|(apply aH;(apply b6 (d := 9);rfl;exact (rfl:_=some [_,_]);rfl))|refine aM ?_|fail)
      refine ⟨rfl,?_⟩
      refine aS (i := 7) (o := ⟨_,_,_,_,_,_⟩) (by kernel_rfl) rfl ?_
      repeat' (first|refine aM ?_|fail)
      refine ⟨rfl,?_⟩
      exact eJ ⟨((a4,d4,B4),(a5,d5,B5)),lX,rfl⟩ (by kernel_rfl)
    ·repeat' (first|refine aM ?_|fail)
     refine ⟨rfl,?_⟩
     refine aS (i := 1) (o := ⟨_,_,_,_,_,_⟩) (by kernel_rfl) rfl ?_
     repeat' (first|refine aM ?_|fail)
     refine ⟨rfl,?_⟩
     refine dV (i := 2) (o := ⟨_,_,_,_,_,_⟩) (by kernel_rfl) rfl ?_
     refine aN rfl (.cons (.pur PurV.pf) .nil) c1 rfl ?_
     rintro _ _ ⟨a4,d4,B4,rfl,rfl⟩
     refine aJ ⟨rfl,?_⟩
     refine dV (i := 5) (o := ⟨_,_,_,_,_,_⟩) (by kernel_rfl) rfl ?_
     refine aN rfl (.cons (.pur PurV.pf) .nil) c2 rfl ?_
     rintro _ _ ⟨a5,d5,B5,rfl,rfl⟩
     refine aJ ⟨rfl,?_⟩
     refine aS (i := 6) (o := ⟨_,_,_,_,_,_⟩) (by kernel_rfl) rfl ?_
     repeat' (first|(apply aH;(apply b6 (d := 9);rfl;exact (rfl:_=some [_,_]);rfl))|refine aM ?_|fail)
     refine ⟨rfl,?_⟩
     refine aS (i := 7) (o := ⟨_,_,_,_,_,_⟩) (by kernel_rfl) rfl ?_
     repeat' (first|refine aM ?_|fail)
     refine ⟨rfl,?_⟩
     exact eJ ⟨((a4,d4,B4),(a5,d5,B5)),lX,rfl⟩ (by kernel_rfl)
  ·repeat' (first|refine aM ?_|fail)
   refine ⟨rfl,?_⟩
   refine kC (i := 0) (i' := 4) (o := ⟨_,_,_,_,_,_⟩) (o' := ⟨_,_,_,_,_,_⟩) (by kernel_rfl) rfl rfl ?_ ?_
   ·repeat' (first|refine aM ?_|fail)
    refine ⟨rfl,?_⟩
    refine kC (i := 1) (i' := 4) (o := ⟨_,_,_,_,_,_⟩) (o' := ⟨_,_,_,_,_,_⟩) (by kernel_rfl) rfl rfl ?_ ?_
    ·repeat' (first|refine aM ?_|fail)
     refine ⟨rfl,?_⟩
     refine j7 (i := 2) (i' := 4) (o := ⟨_,_,_,_,_,_⟩) (o' := ⟨_,_,_,_,_,_⟩) (by kernel_rfl) rfl rfl ?_ ?_
     ·refine aN rfl (.cons (.pur PurV.pf) .nil) c1 rfl ?_
      rintro _ _ ⟨a4,d4,B4,rfl,rfl⟩
      refine aJ ⟨rfl,?_⟩
      refine aS (i := 4) (o := ⟨_,_,_,_,_,_⟩) (by kernel_rfl) rfl ?_
      repeat' (first|refine aM ?_|fail)
      refine ⟨rfl,?_⟩
      refine dV (i := 5) (o := ⟨_,_,_,_,_,_⟩) (by kernel_rfl) rfl ?_
      refine aN rfl (.cons (.pur PurV.pf) .nil) c2 rfl ?_
      rintro _ _ ⟨a5,d5,B5,rfl,rfl⟩
      refine aJ ⟨rfl,?_⟩
      refine aS (i := 6) (o := ⟨_,_,_,_,_,_⟩) (by kernel_rfl) rfl ?_
      repeat' (first|(apply aH;(apply b6 (d := 9);rfl;exact (rfl:_=some [_,_]);rfl))|refine aM ?_|fail)
      refine ⟨rfl,?_⟩
      refine aS (i := 7) (o := ⟨_,_,_,_,_,_⟩) (by kernel_rfl) rfl ?_
      repeat' (first|refine aM ?_|fail)
      refine ⟨rfl,?_⟩
      exact eJ ⟨((a4,d4,B4),(a5,d5,B5)),lX,rfl⟩ (by kernel_rfl)
     ·refine cV ?_
      repeat' (first|refine aM ?_|fail)
      refine ⟨rfl,aJ ⟨rfl,?_⟩⟩
      refine dV (i := 2) (o := ⟨_,_,_,_,_,_⟩) (by kernel_rfl) rfl ?_
      refine aN rfl (.cons (.pur PurV.pf) .nil) c1 rfl ?_
      rintro _ _ ⟨a4,d4,B4,rfl,rfl⟩
      refine aJ ⟨rfl,?_⟩
      refine dV (i := 5) (o := ⟨_,_,_,_,_,_⟩) (by kernel_rfl) rfl ?_
      refine aN rfl (.cons (.pur PurV.pf) .nil) c2 rfl ?_
      rintro _ _ ⟨a5,d5,B5,rfl,rfl⟩
      refine aJ ⟨rfl,?_⟩
      refine aS (i := 6) (o := ⟨_,_,_,_,_,_⟩) (by kernel_rfl) rfl ?_
      repeat' (first|(apply aH;(apply b6 (d := 9);rfl;exact (rfl:_=some [_,_]);rfl))|refine aM ?_|fail)
      refine ⟨rfl,?_⟩
      refine aS (i := 7) (o := ⟨_,_,_,_,_,_⟩) (by kernel_rfl) rfl ?_
      repeat' (first|refine aM ?_|fail)
      refine ⟨rfl,?_⟩
      exact eJ ⟨((a4,d4,B4),(a5,d5,B5)),lX,rfl⟩ (by kernel_rfl)
    ·repeat' (first|refine aM ?_|fail)
     refine ⟨rfl,?_⟩
     refine aS (i := 1) (o := ⟨_,_,_,_,_,_⟩) (by kernel_rfl) rfl ?_
     repeat' (first|refine aM ?_|fail)
     refine ⟨rfl,?_⟩
     refine dV (i := 2) (o := ⟨_,_,_,_,_,_⟩) (by kernel_rfl) rfl ?_
     refine aN rfl (.cons (.pur PurV.pf) .nil) c1 rfl ?_
     rintro _ _ ⟨a4,d4,B4,rfl,rfl⟩
     refine aJ ⟨rfl,?_⟩
     refine dV (i := 5) (o := ⟨_,_,_,_,_,_⟩) (by kernel_rfl) rfl ?_
     refine aN rfl (.cons (.pur PurV.pf) .nil) c2 rfl ?_
     rintro _ _ ⟨a5,d5,B5,rfl,rfl⟩
     refine aJ ⟨rfl,?_⟩
     refine aS (i := 6) (o := ⟨_,_,_,_,_,_⟩) (by kernel_rfl) rfl ?_
     repeat' (first|(apply aH;(apply b6 (d := 9);rfl;exact (rfl:_=some [_,_]);rfl))|refine aM ?_|fail)
     refine ⟨rfl,?_⟩
     refine aS (i := 7) (o := ⟨_,_,_,_,_,_⟩) (by kernel_rfl) rfl ?_
     repeat' (first|refine aM ?_|fail)
     refine ⟨rfl,?_⟩
     exact eJ ⟨((a4,d4,B4),(a5,d5,B5)),lX,rfl⟩ (by kernel_rfl)
   ·repeat' (first|refine aM ?_|fail)
    refine ⟨rfl,?_⟩
    refine aS (i := 0) (o := ⟨_,_,_,_,_,_⟩) (by kernel_rfl) rfl ?_
    repeat' (first|refine aM ?_|fail)
    refine ⟨rfl,?_⟩
    refine aS (i := 1) (o := ⟨_,_,_,_,_,_⟩) (by kernel_rfl) rfl ?_
    repeat' (first|refine aM ?_|fail)
    refine ⟨rfl,?_⟩
    refine dV (i := 2) (o := ⟨_,_,_,_,_,_⟩) (by kernel_rfl) rfl ?_
    refine aN rfl (.cons (.pur PurV.pf) .nil) c1 rfl ?_
    rintro _ _ ⟨a4,d4,B4,rfl,rfl⟩
    refine aJ ⟨rfl,?_⟩
    refine dV (i := 5) (o := ⟨_,_,_,_,_,_⟩) (by kernel_rfl) rfl ?_
    refine aN rfl (.cons (.pur PurV.pf) .nil) c2 rfl ?_
    rintro _ _ ⟨a5,d5,B5,rfl,rfl⟩
    refine aJ ⟨rfl,?_⟩
    refine aS (i := 6) (o := ⟨_,_,_,_,_,_⟩) (by kernel_rfl) rfl ?_
    repeat' (first|(apply aH;(apply b6 (d := 9);rfl;exact (rfl:_=some [_,_]);rfl))|refine aM ?_|fail)
    refine ⟨rfl,?_⟩
    refine aS (i := 7) (o := ⟨_,_,_,_,_,_⟩) (by kernel_rfl) rfl ?_
    repeat' (first|refine aM ?_|fail)
    refine ⟨rfl,?_⟩
    exact eJ ⟨((a4,d4,B4),(a5,d5,B5)),lX,rfl⟩ (by kernel_rfl)
 rintro ⟨⟨a4,d4,B4⟩,⟨a5,d5,B5⟩⟩
 show cQ _ _ _ _ _ _
 refine awt_lift ?_
 repeat' (first|refine JC ?_|fail)
 exact mU (l := [.agg [.v (.slice a4 p.types.length d4),.v (.slice a5 p.body.length d5)]]) rfl rfl rfl ⟨a4,d4,B4,a5,d5,B5,rfl,rfl⟩
end Go.Proofs.YtgkalkgplcdnkaaGreat
