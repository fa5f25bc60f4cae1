/-
 A part of the proofs over this program: rules and contracts of its functions (the contracts).
-/
import Derived.Test.YtgkalkgplcdnkaaGreatW1B03
import Derived.Test.YtgkalkgplcdnkaaGreatRows
import Derived.WalkKit
import Derived.ProofKit
import Derived.OpenShut
import Derived.Carry
import Derived.ChangeSlices
set_option linter.unusedVariables false
set_option linter.unusedSimpArgs false
set_option maxHeartbeats 8000000
set_option maxRecDepth 4000
attribute [local irreducible] Go.AL.RW Go.AL.AW Go.AL.Stop
namespace Go.Proofs.YtgkalkgplcdnkaaGreat
open Go.AL Go.RowKit
theorem Be (p:Prg) (L:List Iss) (x:Iss) (hC:PC Tryz.prog 88 [cA p] (fun r => r = sl fM L)) (hLl:L.length ≤ 1048576) (hx:x ∉ L):PC Tryz.prog 21 [cA p,fU x] (fun r => r = .tup [sl cI [],bv false]):=by
 have hh := kD p L x hC hLl
 rw [decide_eq_false hx] at hh
 refine aD Tryz.func21 Tryz.ntmps21 ?_
 repeat' (first|(apply aF;first|(apply aA (k := 61);rfl;exact hh;exact Pur.pf;rfl)|(apply aL (t := _);rfl;rfl;rfl;(rfl);rfl;rfl))|refine aC ?_|fail)
 exact aI rfl ⟨rfl,(by (rfl))⟩
theorem Hr (p:Prg) (L:List Iss) (a:Nat) (k wi:Int) (hC:PC Tryz.prog 88 [cA p] (fun r => r = sl fM L)) (hLl:L.length ≤ 1048576) (hk:k = 1) (ha:a < (aB p).length) (hv:bR p = true) (hx:(⟨(a:Int),k,wi⟩:Iss) ∈ L) (hs:aM p.body ≤ 1048576) :
  PC Tryz.prog 21 [cA p,fU ⟨(a : Int),k,wi⟩] (fun r => r = .tup [sl cI (dT (l3 (aB p) a)),bv true]) := by
 have w := WG.of_valid hv
 have hh := kD p L ⟨(a : Int),k,wi⟩ hC hLl
 rw [decide_eq_true hx] at hh
 have hp := dJ p hs
 have hb := pD p.types (aB p) a w ha
 subst hk
 refine aD Tryz.func21 Tryz.ntmps21 ?_
 repeat' (first|(apply aF;first|(apply aA (k := 61);rfl;exact hh;exact Pur.pf;rfl)|(apply aA (k := 27);rfl;exact hp;exact Pur.pf;rfl)|(apply aA (k := 62);rfl;exact hb;exact Pur.pf;rfl))|refine aC ?_|fail)
 all_goals first|exact aI rfl ⟨rfl,(by exact Pur.pf)⟩
theorem H5 (p:Prg) (f:Flows p.types (aB p)) (L:List Iss) (a l:Nat) (k:Int) (hC:PC Tryz.prog 88 [cA p] (fun r => r = sl fM L)) (hLl:L.length ≤ 1048576) (hk:k ≠ 1) (ha:a < (aB p).length) (hll:l < (aB p).length) (hv:bR p = true) (hx:(⟨(a:Int),k,(l:Int)⟩:Iss) ∈ L) (hl:p.types.length ≤ 1048576) (hs:aM p.body ≤ 1048576) (u:Nat)
  (hu : (gR (cO (aB p) a) (cZ p.types (aB p) f.Af l) (aB p).length).1 = (u : Int)) (hun : u < (aB p).length) (h2 : cO (aB p) l a ≠ []) (h3 : cO (aB p) a u ≠ []) :
  PC Tryz.prog 21 [cA p,fU ⟨(a : Int),k,(l : Int)⟩] (fun r => r = .tup [sl cI (dT (l3 (aB p) l) ++ (dT (cO (aB p) l a)).drop 1 ++ (dT (cO (aB p) a u)).drop 1),bv true]) := by
 have w := WG.of_valid hv
 have hh := kD p L ⟨(a : Int),k,(l : Int)⟩ hC hLl
 rw [decide_eq_true hx] at hh
 have hp := dJ p hs
 have hb := pD p.types (aB p) l w hll
 obtain ⟨F0,hF0⟩ := GoodR.exist (aB p) a
 have hua := jJ p a l f F0 hl hs hv ha hll hF0
 rw [hu,if_pos (by omega)] at hua
 have hs1 := iV p.types (aB p) l a w hll ha
 rw [decide_eq_true ((eM w.nx hll a).2 ((fY w.nx hll).1 h2))] at hs1
 have hs2 := iV p.types (aB p) a u w ha hun
 have hl1 := eP (x := a) w.nx hll
 have hl2 := eP (x := u) w.nx ha
 have hl0 := nF w.nx w.p0 l
 have hpl := w.pl
 rw [← bT] at hl0 hl1 hl2
 have hp1 : 0 < (dT (cO (aB p) l a)).length := by rw [bT]; exact List.length_pos_iff.2 h2
 have hp2 : 0 < (dT (cO (aB p) a u)).length := by rw [bT]; exact List.length_pos_iff.2 h3
 generalize dT (l3 (aB p) l) = A at *
 generalize dT (cO (aB p) l a) = B at *
 generalize dT (cO (aB p) a u) = D at *
 have hj1 := sX A B (by omega) (by omega) hp1
 have hj2 := sX (A ++ B.drop 1) D (by rw [List.length_append,List.length_drop]; omega) (by omega) hp2
 refine aD Tryz.func21 Tryz.ntmps21 ?_
 repeat' (first|(apply aF;first|(apply aA (k := 61);rfl;exact hh;exact Pur.pf;rfl)|(apply aA (k := 27);rfl;exact hp;exact Pur.pf;rfl)|(apply aA (k := 62);rfl;exact hb;exact Pur.pf;rfl)|(apply aA (k := 64);rfl;exact hua;exact Pur.pf;rfl)|(apply aA (k := 63);rfl;exact hs1;exact Pur.pf;rfl)|(apply aA (k := 63);rfl;exact hs2;exact Pur.pf;rfl)|(apply aA (k := 65);rfl;exact hj1;exact Pur.pf;rfl)|(apply aA (k := 65);rfl;exact hj2;exact Pur.pf;rfl))|refine aC ?_|(refine aJ ?_ ?_ <;> intro hc hq <;> try (exfalso;omega))|fail)
 all_goals first|exact aI rfl ⟨rfl,(by exact Pur.pf)⟩
theorem HZ (p:Prg) (f:Flows p.types (aB p)) (L:List Iss) (a l:Nat) (k:Int) (hC:PC Tryz.prog 88 [cA p] (fun r => r = sl fM L)) (hLl:L.length ≤ 1048576) (hk:k ≠ 1) (ha:a < (aB p).length) (hll:l < (aB p).length) (hv:bR p = true) (hx:(⟨(a:Int),k,(l:Int)⟩:Iss) ∈ L) (hl:p.types.length ≤ 1048576) (hs:aM p.body ≤ 1048576)
  (hu : (gR (cO (aB p) a) (cZ p.types (aB p) f.Af l) (aB p).length).1 < 0) :
  PC Tryz.prog 21 [cA p,fU ⟨(a : Int),k,(l : Int)⟩] (fun r => r = .tup [sl cI [],bv false]) := by
 have w := WG.of_valid hv
 have hh := kD p L ⟨(a : Int),k,(l : Int)⟩ hC hLl
 rw [decide_eq_true hx] at hh
 have hp := dJ p hs
 have hb := pD p.types (aB p) l w hll
 obtain ⟨F0,hF0⟩ := GoodR.exist (aB p) a
 have hua := jJ p a l f F0 hl hs hv ha hll hF0
 rw [if_neg (by omega)] at hua
 have hs1 := iV p.types (aB p) l a w hll ha
 refine aD Tryz.func21 Tryz.ntmps21 ?_
 repeat' (first|(apply aF;first|(apply aA (k := 61);rfl;exact hh;exact Pur.pf;rfl)|(apply aA (k := 27);rfl;exact hp;exact Pur.pf;rfl)|(apply aA (k := 62);rfl;exact hb;exact Pur.pf;rfl)|(apply aA (k := 64);rfl;exact hua;exact Pur.pf;rfl)|(apply aA (k := 63);rfl;exact hs1;exact Pur.pf;rfl)|(apply aL (t := _);rfl;rfl;rfl;(rfl);rfl;rfl))|refine aC ?_|(refine aJ ?_ ?_ <;> intro hc hq <;> try (exfalso;omega))|(refine b9 ?_ ?_ <;> intro hg hq <;> try (exfalso;omega))|fail)
 all_goals first|exact aI rfl ⟨rfl,(by (rfl))⟩
theorem Ig (p:Prg) (f:Flows p.types (aB p)) (L:List Iss) (a l:Nat) (k:Int) (hC:PC Tryz.prog 88 [cA p] (fun r => r = sl fM L)) (hLl:L.length ≤ 1048576) (hk:k ≠ 1) (ha:a < (aB p).length) (hll:l < (aB p).length) (hv:bR p = true) (hx:(⟨(a:Int),k,(l:Int)⟩:Iss) ∈ L) (hl:p.types.length ≤ 1048576) (hs:aM p.body ≤ 1048576) (u:Nat)
  (hu : (gR (cO (aB p) a) (cZ p.types (aB p) f.Af l) (aB p).length).1 = (u : Int)) (h2 : ¬ Wy (aB p) l a) :
  PC Tryz.prog 21 [cA p,fU ⟨(a : Int),k,(l : Int)⟩] (fun r => r = .tup [sl cI [],bv false]) := by
 have w := WG.of_valid hv
 have hh := kD p L ⟨(a : Int),k,(l : Int)⟩ hC hLl
 rw [decide_eq_true hx] at hh
 have hp := dJ p hs
 have hb := pD p.types (aB p) l w hll
 obtain ⟨F0,hF0⟩ := GoodR.exist (aB p) a
 have hua := jJ p a l f F0 hl hs hv ha hll hF0
 rw [hu,if_pos (by omega)] at hua
 have hs1 := iV p.types (aB p) l a w hll ha
 rw [decide_eq_false (fun h => h2 ((eM w.nx hll a).1 h))] at hs1
 refine aD Tryz.func21 Tryz.ntmps21 ?_
 repeat' (first|(apply aF;first|(apply aA (k := 61);rfl;exact hh;exact Pur.pf;rfl)|(apply aA (k := 27);rfl;exact hp;exact Pur.pf;rfl)|(apply aA (k := 62);rfl;exact hb;exact Pur.pf;rfl)|(apply aA (k := 64);rfl;exact hua;exact Pur.pf;rfl)|(apply aA (k := 63);rfl;exact hs1;exact Pur.pf;rfl)|(apply aL (t := _);rfl;rfl;rfl;(rfl);rfl;rfl))|refine aC ?_|(refine aJ ?_ ?_ <;> intro hc hq <;> try (exfalso;omega))|fail)
 all_goals first|exact aI rfl ⟨rfl,(by (rfl))⟩
end Go.Proofs.YtgkalkgplcdnkaaGreat
namespace Go.Proofs.YtgkalkgplcdnkaaGreat
open Go.AL Go.ChangeShapes Go.WideShapes Go.ChangeAt Go.RowKit
theorem Kt:laidOutB Tryz.prog = true := by kernel_rfl
end Go.Proofs.YtgkalkgplcdnkaaGreat
namespace Go.Proofs.YtgkalkgplcdnkaaGreat
open Go.AL Go.RowKit
theorem lU {c left:Int}(h:c ≤ left):FY c left = left - c := if_pos h
theorem iW {c left:Int}(h:¬ c ≤ left):FY c left = -1 := if_neg h
theorem FQ (l:List Int) (left:Int) (h0:0 ≤ left) (h1:left ≤ 1048576) (hl:l.length ≤ 9223372036854775807):PC Tryz.prog 24 [sl cI l,iv left] (fun r => r = iv (FY l.length left)):=by
 refine aD Tryz.func24 Tryz.ntmps24 ?_
 repeat' (first|refine aC ?_|(refine aJ ?_ ?_ <;> intro hc hq <;> try (exfalso;omega))|fail)
 all_goals (refine aI rfl ⟨?_,rfl⟩; simp only [aN]; first|rw [lU (by omega)]|rw [iW (by omega)])
theorem CY (m:Nat) (ih:∀ l (left:Int),aM l < m → Fq l → 0 ≤ left → left ≤ 1048576 → PC Tryz.prog 25 [sl aR l,iv left] (fun r => r = iv (FY (aM l) left))) (s:AL.Stmt) (left:Int) (hs:cJ s ≤ m) (hln:Ck s) (h0:0 ≤ left) (h1:left ≤ 1048576) :
  PC Tryz.prog 73 [bV s,iv left] (fun r => r = iv (FY (aM s.th + aM s.el : Nat) left)) := by
 have hct := iA s
 obtain ⟨l1,l2⟩ := J1 hln
 have c1 := ih s.th left (by omega) l1 h0 h1
 by_cases q1 : (aM s.th : Int) ≤ left
 ·rw [lU q1] at c1
  have c2 := ih s.el (left - aM s.th) (by omega) l2 (by omega) (by omega)
  by_cases q2 : (aM s.el : Int) ≤ left - aM s.th
  ·rw [lU q2] at c2
   rw [lU (by omega)]
   refine aD Tryz.func73 Tryz.ntmps73 ?_
   repeat' (first|(apply aF;(apply aA (k := 25);rfl;(first|exact c1|exact c2);exact Pur.pf;rfl))|refine aC ?_|(refine aJ ?_ ?_ <;> intro hc hq <;> try (exfalso;omega))|fail)
   all_goals first
    | (exfalso;omega)
    | (refine aI rfl ⟨?_,rfl⟩; simp only [aN]; refine congrArg (fun z => AV.v (Value.int .i64 z)) ?_; omega)
  ·rw [iW q2] at c2
   rw [iW (by omega)]
   refine aD Tryz.func73 Tryz.ntmps73 ?_
   repeat' (first|(apply aF;(apply aA (k := 25);rfl;(first|exact c1|exact c2);exact Pur.pf;rfl))|refine aC ?_|(refine aJ ?_ ?_ <;> intro hc hq <;> try (exfalso;omega))|fail)
   all_goals first
    | (exfalso;omega)
    | (refine aI rfl ⟨?_,rfl⟩; rfl)
 ·rw [iW q1] at c1
  rw [iW (by omega)]
  refine aD Tryz.func73 Tryz.ntmps73 ?_
  repeat' (first|(apply aF;(apply aA (k := 25);rfl;exact c1;exact Pur.pf;rfl))|refine aC ?_|fail)
  all_goals first
   | (exfalso;omega)
   | (refine aI rfl ⟨?_,rfl⟩; rfl)
theorem Ak (m:Nat) (ih:∀ s (left:Int),cJ s ≤ m → Ck s → 0 ≤ left → left ≤ 1048576 → PC Tryz.prog 73 [bV s,iv left] (fun r => r = iv (FY (aM s.th + aM s.el:Nat) left))) (l:List AL.Stmt) (left:Int) (hs:aM l ≤ m) (hln:Fq l) (h0:0 ≤ left) (h1:left ≤ 1048576) :
  PC Tryz.prog 25 [sl aR l,iv left] (fun r => r = iv (FY (aM l) left)) := by
 have hX := Fv l
 have hl := hln.1
 by_cases q0 : (l.length : Int) ≤ left
 ·refine aD Tryz.func25 Tryz.ntmps25 ?_
  repeat' (first|refine aC ?_|(refine aJ ?_ ?_ <;> intro hc hq <;> try (exfalso;omega))|fail)
  refine aH (σ := Nat × Int) [0] [] (fun k => [(5,iv (k.1 : Int)),(1,iv k.2)]) (fun k => []) (fun k => k.1 ≤ l.length ∧ 0 ≤ k.2 ∧ k.2 + l.length + lT (l.take k.1) = left) (fun k => l.length - k.1) (0,left - l.length) ⟨by omega,by dsimp only;omega,by simp [lT]⟩ ?_
  rintro ⟨k,z⟩ ⟨hk,hz0,hz⟩
  dsimp only at hk hz0 hz ⊢
  by_cases hkl : k < l.length
  ·have hck := eZ l k hkl
   have hsx := Ch hkl
   have hle := Hg l (k + 1)
   have c1 := ih l[k]! z (by omega) (Jf hln hkl) hz0 (by omega)
   by_cases q1 : ((aM l[k]!.th + aM l[k]!.el : Nat) : Int) ≤ z
   ·rw [lU q1] at c1
    repeat' (first|(apply aF;(apply aA (k := 73);rfl;exact c1;exact Pur.pf;rfl))|refine aC ?_|(refine aJ ?_ ?_ <;> intro hc hq <;> try (exfalso;omega))|fail)
    all_goals first
     | (exfalso;omega)
     | ((refine bC (k + 1, z - (aM l[k]!.th + aM l[k]!.el : Nat)) (Le.renA []) ?_ ?_)
        ·exact ⟨by dsimp only;omega,by dsimp only;omega,by dsimp only;rw [hsx]; omega⟩
        ·dsimp only;omega)
   ·rw [iW q1] at c1
    repeat' (first|(apply aF;(apply aA (k := 73);rfl;exact c1;exact Pur.pf;rfl))|refine aC ?_|(refine aJ ?_ ?_ <;> intro hc hq <;> try (exfalso;omega))|fail)
    all_goals first
     | (exfalso;omega)
     | (refine aI rfl ⟨?_,rfl⟩; simp only [aN]; rw [iW (by omega)])
  ·have hke : k = l.length := by omega
   subst hke
   rw [List.take_length] at hz
   repeat' (first|refine aC ?_|(refine aJ ?_ ?_ <;> intro hc hq <;> try (exfalso;omega))|fail)
   refine aI rfl ⟨?_,rfl⟩; simp only [aN]; rw [lU (by omega)]
   refine congrArg (fun z => AV.v (Value.int .i64 z)) ?_; omega
 ·refine aD Tryz.func25 Tryz.ntmps25 ?_
  repeat' (first|refine aC ?_|(refine aJ ?_ ?_ <;> intro hc hq <;> try (exfalso;omega))|fail)
  all_goals first
   | (exfalso;omega)
   | (refine aI rfl ⟨?_,rfl⟩; simp only [aN]; rw [iW (by omega)])
theorem HN:∀ (m:Nat),(∀ s (left:Int),cJ s ≤ m → Ck s → 0 ≤ left → left ≤ 1048576 → PC Tryz.prog 73 [bV s,iv left] (fun r => r = iv (FY (aM s.th + aM s.el:Nat) left))) ∧
  (∀ l (left : Int),aM l ≤ m → Fq l → 0 ≤ left → left ≤ 1048576 → PC Tryz.prog 25 [sl aR l,iv left] (fun r => r = iv (FY (aM l) left))) := by
 intro m
 induction m using Nat.strongRecOn with
 | ind m ih =>
  have h1 : ∀ s (left : Int), cJ s ≤ m → Ck s → 0 ≤ left → left ≤ 1048576 → PC Tryz.prog 73 [bV s, iv left] (fun r => r = iv (FY (aM s.th + aM s.el : Nat) left)) :=
   fun s left a1 a2 a3 a4 => CY m (fun l left' g1 g2 g3 g4 => (ih (aM l) g1).2 l left' (Nat.le_refl _) g2 g3 g4) s left a1 a2 a3 a4
  exact ⟨h1,fun l left g1 g2 g3 g4 => Ak m h1 l left g1 g2 g3 g4⟩
theorem oZ (p:Prg) (left:Int) (h0:0 ≤ left) (h1:left ≤ 1048576) (hl:p.types.length ≤ 9223372036854775807) (hln:Fq p.body):PC Tryz.prog 7 [cA p,iv left] (fun r => r = iv (FY (p.types.length + aM p.body:Nat) left)):=by
 have c1 := FQ p.types left h0 h1 hl
 by_cases q1 : (p.types.length : Int) ≤ left
 ·rw [lU q1] at c1
  have c2 := (HN _).2 p.body (left - p.types.length) (Nat.le_refl _) hln (by omega) (by omega)
  by_cases q2 : (aM p.body : Int) ≤ left - p.types.length
  ·rw [lU q2] at c2
   rw [lU (by omega)]
   refine aD Tryz.func7 Tryz.ntmps7 ?_
   repeat' (first|(apply aF;first|(apply aA (k := 24);rfl;exact c1;exact Pur.pf;rfl)|(apply aA (k := 25);rfl;exact c2;exact Pur.pf;rfl))|refine aC ?_|(refine aJ ?_ ?_ <;> intro hc hq <;> try (exfalso;omega))|fail)
   all_goals first
    | (exfalso;omega)
    | (refine aI rfl ⟨?_,rfl⟩; simp only [aN]; refine congrArg (fun z => AV.v (Value.int .i64 z)) ?_; omega)
  ·rw [iW q2] at c2
   rw [iW (by omega)]
   refine aD Tryz.func7 Tryz.ntmps7 ?_
   repeat' (first|(apply aF;first|(apply aA (k := 24);rfl;exact c1;exact Pur.pf;rfl)|(apply aA (k := 25);rfl;exact c2;exact Pur.pf;rfl))|refine aC ?_|(refine aJ ?_ ?_ <;> intro hc hq <;> try (exfalso;omega))|fail)
   all_goals first
    | (exfalso;omega)
    | (refine aI rfl ⟨?_,rfl⟩; rfl)
 ·rw [iW q1] at c1
  rw [iW (by omega)]
  refine aD Tryz.func7 Tryz.ntmps7 ?_
  repeat' (first|(apply aF;(apply aA (k := 24);rfl;exact c1;exact Pur.pf;rfl))|refine aC ?_|fail)
  all_goals first
   | (exfalso;omega)
   | (refine aI rfl ⟨?_,rfl⟩; rfl)
theorem Jo {xs:List AL.Stmt}{k:Nat}(s:AL.Stmt) (hk:k < xs.length):iQ (flat aR xs) (0 + k * 6) [iv s.op,iv s.x,iv s.y,iv s.n,sl aR s.th,sl aR s.el] = flat aR (xs.set k s) := fV hk (fN s).symm
theorem F9:∀ n:Nat,flat cN (List.replicate n 0) = flat cI (List.replicate n 0)
 | 0 => rfl
 | n + 1 => by rw [List.replicate_succ,List.replicate_succ]; show cN 0 ++ flat cN (List.replicate n 0) = cI 0 ++ flat cI (List.replicate n 0);rw [F9 n]; rfl
theorem Gq (l:List Int) (hl:l.length ≤ 1048576):PC Tryz.prog 32 [sl cI l] (fun r => r = sl cI l):=by
 refine aD Tryz.func32 Tryz.ntmps32 ?_
 repeat' (first|refine aC ?_|fail)
 rw [F9]
 refine aH (σ := Nat × List Int) [0,3] [] (fun k => [(4,iv (k.1 : Int))]) (fun k => [(0,some (flat cI k.2))]) (fun k => k.1 ≤ l.length ∧ k.2.length = l.length ∧ (∀ j,j < k.1 → k.2[j]! = l[j]!)) (fun k => l.length - k.1) (0,List.replicate l.length 0) ⟨by omega,by simp,by omega⟩ ?_
 rintro ⟨k,u⟩ ⟨hk,hul,hu⟩
 dsimp only at hk hul hu ⊢
 repeat' (first|refine aC ?_|(refine aJ ?_ ?_ <;> intro hc hq <;> try (exfalso;omega))|fail)
 ·(refine bC (k + 1, u.set k l[k]!) (Le.renA [(0, 0)]) ?_ ?_)
  ·refine ⟨by dsimp only; omega, by dsimp only; rw [List.length_set]; exact hul, fun j hj => ?_⟩
   dsimp only at hj ⊢
   rw [aP]
   by_cases e : k = j
   ·subst e;rw [if_pos ⟨rfl,by omega⟩]
   ·rw [if_neg (fun q => e q.1)]; exact hu j (by omega)
  ·dsimp only;omega
 ·refine bF (Le.frzD (d := 2) (i := 0) rfl rfl) ?_
  have e : u = l := aY hul fun j hj => hu j (by omega)
  subst e
  exact aI rfl ⟨rfl,(by (exact a8 _ _))⟩
theorem CD (m:Nat) (ih:∀ l,aM l < m → PC Tryz.prog 33 [sl aR l] (fun r => r = sl aR l)) (s:AL.Stmt) (hs:cJ s ≤ m):PC Tryz.prog 77 [bV s] (fun r => r = bV s):=by
 have hct := iA s
 have c1 := ih s.th (by omega)
 have c2 := ih s.el (by omega)
 refine aD Tryz.func77 Tryz.ntmps77 ?_
 repeat' (first|(apply aF;(apply aA (k := 33);rfl;(first|exact c1|exact c2);exact Pur.pf;rfl))|refine aC ?_|fail)
 exact aI (l := [bV s]) rfl ⟨rfl,Pur.pf⟩
theorem AQ (m:Nat) (hm:m ≤ 1048576) (ih:∀ s,cJ s ≤ m → PC Tryz.prog 77 [bV s] (fun r => r = bV s)) (l:List AL.Stmt) (hs:aM l ≤ m):PC Tryz.prog 33 [sl aR l] (fun r => r = sl aR l):=by
 have hlen := dX l
 refine aD Tryz.func33 Tryz.ntmps33 ?_
 repeat' (first|refine aC ?_|fail)
 refine KA (Le.zeroS (i := 0) (m := l.length) rfl) ?_
 refine aH (σ := Nat × List AL.Stmt) [0,3] [] (fun k => [(4,iv (k.1 : Int))]) (fun k => [(0,some (flat aR k.2))]) (fun k => k.1 ≤ l.length ∧ k.2.length = l.length ∧ (∀ j,j < k.1 → k.2[j]! = l[j]!)) (fun k => l.length - k.1) (0,List.replicate l.length K0) ⟨by omega,by simp,by omega⟩ ?_
 rintro ⟨k,u⟩ ⟨hk,hul,hu⟩
 dsimp only at hk hul hu ⊢
 by_cases hkl : k < l.length
 ·have hck := eZ l k hkl
  have c1 := ih l[k]! (by omega)
  repeat' (first|(apply aF;first|(apply aA (k := 77);rfl;exact c1;exact Pur.pf;rfl)|(apply b8;rfl;rfl;rfl;rfl;rfl;(rw [aK aR (e := 6)]; (show _ + 6 ≤ _);omega);exact Jo _ (by omega)))|refine aC ?_|(refine aJ ?_ ?_ <;> intro hc hq <;> try (exfalso;omega))|fail)
  (refine bC (k + 1,u.set k l[k]!) (Le.renA [(0,0)]) ?_ ?_)
  ·refine ⟨by dsimp only; omega, by dsimp only; rw [List.length_set]; exact hul, fun j hj => ?_⟩
   dsimp only at hj ⊢
   rw [aP]
   by_cases e : k = j
   ·subst e;rw [if_pos ⟨rfl,by omega⟩]
   ·rw [if_neg (fun q => e q.1)]; exact hu j (by omega)
  ·dsimp only;omega
 ·repeat' (first | refine aC ?_ | (refine aJ ?_ ?_ <;> intro hc hq <;> try (exfalso; omega))|fail)
  refine bF (Le.frzD (d := 2) (i := 0) rfl rfl) ?_
  have e : u = l := aY hul fun j hj => hu j (by omega)
  subst e
  exact aI rfl ⟨rfl,(by (exact a8 _ _))⟩
theorem G7:∀ (m:Nat),m ≤ 1048576 → (∀ s,cJ s ≤ m → PC Tryz.prog 77 [bV s] (fun r => r = bV s)) ∧ (∀ l,aM l ≤ m → PC Tryz.prog 33 [sl aR l] (fun r => r = sl aR l)):=by
 intro m
 induction m using Nat.strongRecOn with
 | ind m ih =>
  intro hm
  have h1 : ∀ s,cJ s ≤ m → PC Tryz.prog 77 [bV s] (fun r => r = bV s) := fun s a1 => CD m (fun l g1 => (ih (aM l) g1 (by omega)).2 l (Nat.le_refl _)) s a1
  exact ⟨h1,fun l g1 => AQ m hm h1 l g1⟩
theorem xG (p:Prg) (hl:p.types.length ≤ 1048576) (hs:aM p.body ≤ 1048576):PC Tryz.prog 9 [cA p] (fun r => r = cA p):=by
 have c1 := Gq p.types hl
 have c2 := (G7 _ hs).2 p.body (Nat.le_refl _)
 refine aD Tryz.func9 Tryz.ntmps9 ?_
 repeat' (first|(apply aF;first|(apply aA (k := 32);rfl;exact c1;exact Pur.pf;rfl)|(apply aA (k := 33);rfl;exact c2;exact Pur.pf;rfl))|refine aC ?_|fail)
 exact aI (l := [cA p]) rfl ⟨rfl,Pur.pf⟩
theorem CT (x:Iss):PC Tryz.prog 22 [.agg (fM x)] (fun r => r = .agg (fM x)):=by
 refine aD Tryz.func22 Tryz.ntmps22 ?_
 repeat' (first|refine aC ?_|fail)
 exact aI (l := [.agg (fM x)]) rfl ⟨rfl,Pur.pf⟩
theorem yV (L:List Int) (hl:L.length ≤ 1048576):PC Tryz.prog 11 [sl cI L,sl cI L] (fun r => r = bv true):=by
 refine aD Tryz.func11 Tryz.ntmps11 ?_
 repeat' (first|refine aC ?_|(refine aJ ?_ ?_ <;> intro hc hq <;> try (exfalso;omega))|fail)
 ·exact (hq trivial).elim
 refine aH (σ := Nat) [0,1] [] (fun k => [(5,iv (k : Int))]) (fun k => []) (fun k => k ≤ L.length) (fun k => L.length - k) (0) (by omega) ?_
 rintro k hk
 repeat' (first|refine aC ?_|(refine aJ ?_ ?_ <;> intro hc hq <;> try (exfalso;omega))|refine cC ?_|fail)
 ·exfalso
  simp at hq
 ·(refine bC (k + 1) (Le.renA []) ?_ ?_)
  ·omega
  ·omega
 ·exact aI rfl ⟨rfl,rfl⟩
theorem C8 (m:Nat) (ih:∀ l,aM l < m → PC Tryz.prog 38 [sl aR l,sl aR l] (fun r => r = bv true)) (s:AL.Stmt) (hs:cJ s ≤ m):PC Tryz.prog 83 [bV s,bV s] (fun r => r = bv true):=by
 have hct := iA s
 have c1 := ih s.th (by omega)
 have c2 := ih s.el (by omega)
 refine aD Tryz.func83 Tryz.ntmps83 ?_
 repeat' (first|(apply aF;(apply aA (k := 38);rfl;(first|exact c1|exact c2);exact Pur.pf;rfl))|refine aC ?_|(refine aJ ?_ ?_ <;> intro hc hq <;> try (exfalso;omega))|fail)
 all_goals first
  | (exfalso;exact (by assumption : ¬ True) trivial)
  | exact aI rfl ⟨rfl,rfl⟩
theorem AO (m:Nat) (hm:m ≤ 1048576) (ih:∀ s,cJ s ≤ m → PC Tryz.prog 83 [bV s,bV s] (fun r => r = bv true)) (l:List AL.Stmt) (hs:aM l ≤ m):PC Tryz.prog 38 [sl aR l,sl aR l] (fun r => r = bv true):=by
 have hlen := dX l
 refine aD Tryz.func38 Tryz.ntmps38 ?_
 repeat' (first|refine aC ?_|(refine aJ ?_ ?_ <;> intro hc hq <;> try (exfalso;omega))|fail)
 ·exact (hq trivial).elim
 refine aH (σ := Nat) [0,1] [] (fun k => [(5,iv (k : Int))]) (fun k => []) (fun k => k ≤ l.length) (fun k => l.length - k) (0) (by omega) ?_
 rintro k hk
 by_cases hkl : k < l.length
 ·have hck := eZ l k hkl
  have c1 := ih l[k]! (by omega)
  repeat' (first|(apply aF;(apply aA (k := 83);rfl;exact c1;exact Pur.pf;rfl))|refine aC ?_|(refine aJ ?_ ?_ <;> intro hc hq <;> try (exfalso;omega))|refine cC ?_|fail)
  all_goals first
   | (exfalso;exact (by assumption : ¬ True) trivial)
   | ((refine bC (k + 1) (Le.renA []) ?_ ?_)
      ·omega
      ·omega)
 ·repeat' (first | refine aC ?_ | (refine aJ ?_ ?_ <;> intro hc hq <;> try (exfalso; omega))|fail)
  exact aI rfl ⟨rfl,rfl⟩
theorem GJ:∀ (m:Nat),m ≤ 1048576 → (∀ s,cJ s ≤ m → PC Tryz.prog 83 [bV s,bV s] (fun r => r = bv true)) ∧ (∀ l,aM l ≤ m → PC Tryz.prog 38 [sl aR l,sl aR l] (fun r => r = bv true)):=by
 intro m
 induction m using Nat.strongRecOn with
 | ind m ih =>
  intro hm
  have h1 : ∀ s,cJ s ≤ m → PC Tryz.prog 83 [bV s,bV s] (fun r => r = bv true) := fun s a1 => C8 m (fun l g1 => (ih (aM l) g1 (by omega)).2 l (Nat.le_refl _)) s a1
  exact ⟨h1,fun l g1 => AO m hm h1 l g1⟩
theorem xW (p:Prg) (hl:p.types.length ≤ 1048576) (hs:aM p.body ≤ 1048576):PC Tryz.prog 12 [cA p,cA p] (fun r => r = bv true):=by
 have c1 := yV p.types hl
 have c2 := (GJ _ hs).2 p.body (Nat.le_refl _)
 refine aD Tryz.func12 Tryz.ntmps12 ?_
 repeat' (first|(apply aF;first|(apply aA (k := 11);rfl;exact c1;exact Pur.pf;rfl)|(apply aA (k := 38);rfl;exact c2;exact Pur.pf;rfl))|refine aC ?_|fail)
 all_goals first
  | (exfalso;exact (by assumption : ¬ True) trivial)
  | exact aI rfl ⟨rfl,rfl⟩
end Go.Proofs.YtgkalkgplcdnkaaGreat
namespace Go.Proofs.YtgkalkgplcdnkaaGreat
open Go.AL Go.ChangeShapes Go.WideShapes Go.ChangeAt Go.RowKit
theorem w7 {w:World}{b:Nat}:∀ (cs:List AV) (l:List Value) (o:Nat),RdL w (fun _ => False) (fun _ => none) cs l → (∀ j,j < l.length → w.cell? ⟨b,o + j,none⟩ = l[j]?) → RdC w (fun _ => False) (fun _ => none) cs b o
 | [],_,_,_,_ => by simp only [RdC]
 | c :: cs, l, o, h, hc => by
  simp only [RdL] at h
  obtain ⟨x,l',rfl,h1,h2,h3⟩ := h
  simp only [RdC]
  refine ⟨⟨x,by simpa using hc 0 (by simp),h1,h2⟩,w7 cs l' (o + 1) h3 fun j hj => ?_⟩
  have := hc (j + 1) (by simpa using hj)
  rw [show o + 1 + j = o + (j + 1) from by omega,this]; rfl
theorem xF {w:World}{bad:Nat → Prop}{ι:Pl}{b:Nat}:∀ (cs ds:List AV) (o:Nat),RdC w bad ι cs b o → RdC w bad ι ds b (o + cs.length) → RdC w bad ι (cs ++ ds) b o
 | [],ds,o,_,h => by simpa using h
 | c :: cs, ds, o, h, h2 => by
  simp only [List.cons_append,RdC] at h ⊢
  exact ⟨h.1,xF cs ds (o + 1) h.2 (by rw [List.length_cons] at h2;rwa [show o + 1 + cs.length = o + (cs.length + 1) from by omega])⟩
theorem RdC_stmts {w:World}{b:Nat}:∀ (l:List AL.Stmt) (o:Nat),(∀ i,i < l.length → RdC w (fun _ => False) (fun _ => none) (aR l[i]!) b (o + i * 6)) → RdC w (fun _ => False) (fun _ => none) (flat aR l) b o
 | [],_,_ => by simp only [flat,List.flatMap_nil,RdC]
 | s :: l, o, h => by
  have e : flat aR (s :: l) = aR s ++ flat aR l := by simp only [flat,List.flatMap_cons]
  rw [e]
  have h0 := h 0 (by simp)
  refine xF _ _ o (by simpa using h0) (RdC_stmts l _ fun i hi => ?_)
  have hi' := h (i + 1) (by simpa using hi)
  have e6 : (aR s).length = 6 := by rw [fN]; rfl
  rw [e6,show o + 6 + i * 6 = o + (i + 1) * 6 from by omega]
  simpa using hi'
theorem xJ {w:World}{b:Nat}:∀ (zs:List Int) (o:Nat),(∀ j,j < zs.length → w.cell? ⟨b,o + j,none⟩ = some (.int .i64 zs[j]!)) → RdC w (fun _ => False) (fun _ => none) (flat cI zs) b o
 | [],_,_ => by simp only [flat,List.flatMap_nil,RdC]
 | x :: zs, o, h => by
  have h0 := h 0 (by simp)
  have e : flat cI (x :: zs) = iv x :: flat cI zs := rfl
  rw [e]
  simp only [RdC]
  refine ⟨⟨.int .i64 x,by simpa using h0,rfl,by simp only [Rd]⟩,xJ zs (o + 1) fun j hj => ?_⟩
  have := h (j + 1) (by simpa using hj)
  rw [show o + 1 + j = o + (j + 1) from by omega]
  simpa using this
theorem A3:Tryz.prog.cellsOf 3 = 1 := by kernel_rfl
theorem BR:Tryz.prog.cellsOf 23 = 1 := by kernel_rfl
theorem Hd:Tryz.prog.cellsOf 22 = 1 := by kernel_rfl
theorem xK:Tryz.prog.cellsOf 100 = 6 := by kernel_rfl
theorem GY:Tryz.prog.cellsOf 25 = 2 := by kernel_rfl
theorem Im:Tryz.prog.cellsOf 44 = 3 := by kernel_rfl
theorem wE {α:Type}[Inhabited α] {P:Nat → α → Prop}(n:Nat) (h:∀ i,i < n → ∃ x,P i x):∃ l:List α,l.length = n ∧ ∀ i,i < n → P i l[i]!:=by
 induction n with
 | zero => exact ⟨[],rfl,by omega⟩
 | succ n ih =>
  obtain ⟨l,h1,h2⟩ := ih fun i hi => h i (by omega)
  obtain ⟨x,hx⟩ := h n (by omega)
  refine ⟨l ++ [x],by simp [h1],fun i hi => ?_⟩
  by_cases e : i < n
  ·rw [aW _ _ (by simp;omega),List.getElem_append_left (by omega),← aW l i (by omega)]; exact h2 i e
  ·have : i = n := by omega
   subst this
   rw [aW _ _ (by simp;omega),List.getElem_append_right (by omega)]
   simp only [h1,Nat.sub_self,List.getElem_cons_zero]; exact hx
section
variable {H : Type} {enc : TypeId × Value → H} {W : World}
theorem HQ {fuel:Nat}{v:Value}{x:DataW H × List MemPlace}(hf:DataW.trod enc Tryz.prog W 0 (fun _ => true) true fuel 22 [v] = some x):∃ l:List Int,l.length ≤ 9223372036854775807 ∧ Rd W (fun _ => False) (fun _ => none) (sl cI l) v ∧ v.oneCell' = true:=by
 rcases open_ints Tryz.underlying22 Tryz.underlying3 A3 hf with ⟨hcs,hx⟩ | ⟨a,len,cap,zs,hcs,_,hl,hm,hz,hx,hcell,hwz⟩
 ·simp at hcs
  subst hcs
  refine ⟨[],by decide,?_,rfl⟩
  simp only [Rd]
  exact ⟨none,0,rfl,.inl rfl⟩
 ·simp at hcs
  subst hcs
  simp only [if_true] at hz
  have hlen : (zs.take len).length = len := by simp;omega
  have hmx : maxLen = 9223372036854775807 := by decide
  refine ⟨zs.take len,by omega,?_,rfl⟩
  simp only [Rd]
  refine ⟨some a,cap,by rw [hlen],?_⟩
  by_cases h00 : len = 0
  ·exact .inl (by rw [hlen]; exact h00)
  ·obtain ⟨b, off, spot⟩ := a
   have hspot : spot = none := by simpa [Addr.add] using World.cell?_spot (hcell 0 (by omega))
   subst hspot
   refine .inr ⟨b,off,by rw [hlen]; exact hl,rfl,.inr ⟨fun h => h,xJ _ _ fun j hj => ?_⟩⟩
   rw [hlen] at hj
   have hcj := hcell j (by omega)
   rw [Addr.add_lit] at hcj
   rw [hcj,aW _ _ (by rw [hlen]; exact hj),List.getElem_take]
   simp [List.getD,List.getElem?_eq_getElem (show j < zs.length by omega)]
theorem Lu {cs:List Value}(h:cs.length = 6):∃ a b c d e f,cs = [a,b,c,d,e,f]:=by
 match cs,h with
 | [a,b,c,d,e,f],_ => exact ⟨a,b,c,d,e,f,rfl⟩
theorem EP:∀ fuel:Nat,(∀ cs x,DataW.trod enc Tryz.prog W 0 (fun _ => true) true fuel 100 cs = some x → ∃ s:AL.Stmt,Ck s ∧ cs.length = 6 ∧ RdL W (fun _ => False) (fun _ => none) (aR s) cs) ∧
  (∀ v x,DataW.trod enc Tryz.prog W 0 (fun _ => true) true fuel 23 [v] = some x → ∃ l : List AL.Stmt,Fq l ∧ Rd W (fun _ => False) (fun _ => none) (sl aR l) v ∧ v.oneCell' = true) := by
 intro fuel
 induction fuel using Nat.strongRecOn with
 | ind fuel ih =>
  constructor
  ·intro cs x h
   obtain ⟨xs,n,hn,_,hl,hlen,hf⟩ := DataW.trod_struct Tryz.underlying100 h
   rw [xK] at hl
   obtain ⟨v0,v1,v2,v3,v4,v5,rfl⟩ := Lu hl
   have f0 := hf 0 _ rfl
   have f1 := hf 1 _ rfl
   have f2 := hf 2 _ rfl
   have f3 := hf 3 _ rfl
   have f4 := hf 4 _ rfl
   have f5 := hf 5 _ rfl
   have g : ∀ i,i < 6 → ∃ y,xs[i]? = some y := fun i hi => ⟨xs[i]'(by rw [hlen]; exact hi),List.getElem?_eq_getElem (by rw [hlen]; exact hi)⟩
   obtain ⟨y0,e0⟩ := g 0 (by decide)
   obtain ⟨y1,e1⟩ := g 1 (by decide)
   obtain ⟨y2,e2⟩ := g 2 (by decide)
   obtain ⟨y3,e3⟩ := g 3 (by decide)
   obtain ⟨y4,e4⟩ := g 4 (by decide)
   obtain ⟨y5,e5⟩ := g 5 (by decide)
   rw [e0] at f0
   rw [e1] at f1
   rw [e2] at f2
   rw [e3] at f3
   rw [e4] at f4
   rw [e5] at f5
   change DataW.trod _ _ _ _ _ _ n 3 (([v0,v1,v2,v3,v4,v5].drop 0).take (Tryz.prog.cellsOf 3)) = _ at f0
   change DataW.trod _ _ _ _ _ _ n 3 (([v0,v1,v2,v3,v4,v5].drop 1).take (Tryz.prog.cellsOf 3)) = _ at f1
   change DataW.trod _ _ _ _ _ _ n 3 (([v0,v1,v2,v3,v4,v5].drop 2).take (Tryz.prog.cellsOf 3)) = _ at f2
   change DataW.trod _ _ _ _ _ _ n 3 (([v0,v1,v2,v3,v4,v5].drop 3).take (Tryz.prog.cellsOf 3)) = _ at f3
   change DataW.trod _ _ _ _ _ _ n 23 (([v0,v1,v2,v3,v4,v5].drop 4).take (Tryz.prog.cellsOf 23)) = _ at f4
   change DataW.trod _ _ _ _ _ _ n 23 (([v0,v1,v2,v3,v4,v5].drop 5).take (Tryz.prog.cellsOf 23)) = _ at f5
   rw [A3] at f0 f1 f2 f3
   rw [BR] at f4 f5
   obtain ⟨n0,q0,_,_⟩ := DataW.trod_int Tryz.underlying3 f0
   obtain ⟨n1,q1,_,_⟩ := DataW.trod_int Tryz.underlying3 f1
   obtain ⟨n2,q2,_,_⟩ := DataW.trod_int Tryz.underlying3 f2
   obtain ⟨n3,q3,_,_⟩ := DataW.trod_int Tryz.underlying3 f3
   have ih' := ih n (by omega)
   obtain ⟨l4,a4,b4,c4⟩ := ih'.2 v4 _ f4
   obtain ⟨l5,a5,b5,c5⟩ := ih'.2 v5 _ f5
   simp at q0 q1 q2 q3
   subst q0 q1 q2 q3
   refine ⟨.mk n0 n1 n2 n3 l4 l5,by simp only [Ck]; exact ⟨a4,a5⟩,rfl,?_⟩
   rw [fN]
   simp only [RdL]
   exact ⟨_,_,rfl,rfl,(by simp only [Rd]; rfl),_,_,rfl,rfl,(by simp only [Rd]; rfl),_,_,rfl,rfl,(by simp only [Rd]; rfl),_,_,rfl,rfl,(by simp only [Rd]; rfl),_,_,rfl,c4,b4,_,_,rfl,c5,b5,rfl⟩
  ·intro v x h
   rcases DataW.trod_slice Tryz.underlying23 h with ⟨hcs,_⟩ | ⟨a,len,cap,elems,rest,n,hn,hcs,_,hb,hl,hm,hlen,hel,hsp,hns⟩
   ·simp at hcs
    subst hcs
    refine ⟨[],⟨by decide,by simp only [Gv]⟩,?_,rfl⟩
    simp only [Rd]
    exact ⟨none,0,rfl,.inl rfl⟩
   ·simp at hcs
    subst hcs
    rw [xK] at hel
    have hmx : maxLen = 9223372036854775807 := by decide
    have key : ∀ i, i < len → ∃ s : AL.Stmt, Ck s ∧ ∃ cs : List Value, cs.length = 6 ∧ RdL W (fun _ => False) (fun _ => none) (aR s) cs ∧ ∀ j, j < 6 → W.cell? ((a.add (i * 6)).add j) = cs[j]? := fun i hi => by
     have h1 := hel i hi
     rw [List.getElem?_eq_getElem (by omega),Option.bind_eq_some_iff] at h1
     obtain ⟨cs,h2,h3⟩ := h1
     obtain ⟨s,s1,s2,s3⟩ := (ih n (by omega)).1 cs _ h3
     exact ⟨s,s1,cs,s2,s3,(World.cells?_some h2).2.2⟩
    obtain ⟨l,k1,k2⟩ := wE len key
    refine ⟨l,⟨by omega,FM fun s hs => ?_⟩,?_,rfl⟩
    ·obtain ⟨i, hi, e⟩ := List.getElem_of_mem hs
     have := (k2 i (by omega)).1
     rw [aW _ _ hi,e] at this;exact this
    ·simp only [Rd]
     refine ⟨some a,cap,by rw [k1],?_⟩
     by_cases h00 : len = 0
     ·exact .inl (by rw [k1]; exact h00)
     ·obtain ⟨b, off, spot⟩ := a
      have hspot : spot = none := by
       obtain ⟨_,cs,c1,_,c3⟩ := k2 0 (by omega)
       have := c3 0 (by decide)
       rw [List.getElem?_eq_getElem (by omega)] at this
       simpa [Addr.add] using World.cell?_spot this
      subst hspot
      refine .inr ⟨b,off,by rw [k1]; exact hl,rfl,.inr ⟨fun h => h,RdC_stmts _ _ fun i hi => ?_⟩⟩
      rw [k1] at hi
      obtain ⟨_,cs,c1,c2,c3⟩ := k2 i hi
      refine w7 _ cs _ c2 fun j hj => ?_
      have := c3 j (by omega)
      rw [Addr.add_lit,Addr.add_lit] at this
      exact this
theorem GM {base:Nat}{v0:Value}{d0:DataW H}{p:List MemPlace}(hval:Value.okWide Tryz.prog W .any base 25 v0) (h0:DataW.Trod enc Tryz.prog W 0 (fun _ => true) true 25 v0 d0 p) :
  ∃ q : Prg,q.types.length ≤ 9223372036854775807 ∧ Fq q.body ∧ Rd W (fun _ => False) (fun _ => none) (cA q) v0 := by
 obtain ⟨cs,rfl,hsz⟩ := okWide_struct Tryz.underlying25 hval
 obtain ⟨fuel,hf⟩ := h0
 obtain ⟨xs,n,hn,_,hl,hlen,hg⟩ := DataW.trod_struct Tryz.underlying25 hf
 have f0 := hg 0 _ rfl
 have f1 := hg 1 _ rfl
 have g : ∀ i,i < 2 → ∃ y,xs[i]? = some y := fun i hi => ⟨xs[i]'(by rw [hlen]; exact hi),List.getElem?_eq_getElem (by rw [hlen]; exact hi)⟩
 obtain ⟨y0,e0⟩ := g 0 (by decide)
 obtain ⟨y1,e1⟩ := g 1 (by decide)
 rw [e0] at f0
 rw [e1] at f1
 change DataW.trod _ _ _ _ _ _ n 22 (((Value.agg cs).cells.toList.drop 0).take (Tryz.prog.cellsOf 22)) = _ at f0
 change DataW.trod _ _ _ _ _ _ n 23 (((Value.agg cs).cells.toList.drop 1).take (Tryz.prog.cellsOf 23)) = _ at f1
 rw [Hd] at f0
 rw [BR] at f1
 have hcs : (Value.agg cs).cells.toList = cs.toList := rfl
 rw [GY] at hl
 rw [hcs] at hl f0 f1
 obtain ⟨a, b, hab⟩ : ∃ a b, cs.toList = [a, b] := by
  match h : cs.toList,hl with
  | [a,b],_ => exact ⟨a,b,rfl⟩
 rw [hab] at f0 f1
 obtain ⟨ts,t1,t2,t3⟩ := HQ f0
 obtain ⟨body,b1,b2,b3⟩ := (EP n).2 _ _ f1
 refine ⟨⟨ts,body⟩,t1,b1,?_⟩
 simp only [Rd]
 refine ⟨[a,b],by rw [← hab],?_⟩
 simp only [RdL]
 exact ⟨_,_,rfl,t3,t2,_,_,rfl,b3,b2,rfl⟩
theorem J8 {base:Nat}{v0:Value}{d0:DataW H}{p:List MemPlace}(hval:Value.okWide Tryz.prog W .any base 44 v0) (h0:DataW.Trod enc Tryz.prog W 0 (fun _ => true) true 44 v0 d0 p) :
  ∃ x : Iss,Rd W (fun _ => False) (fun _ => none) (fU x) v0 := by
 obtain ⟨cs,rfl,hsz⟩ := okWide_struct Tryz.underlying44 hval
 obtain ⟨fuel,hf⟩ := h0
 obtain ⟨xs,n,hn,_,hl,hlen,hg⟩ := DataW.trod_struct Tryz.underlying44 hf
 have f0 := hg 0 _ rfl
 have f1 := hg 1 _ rfl
 have f2 := hg 2 _ rfl
 have g : ∀ i,i < 3 → ∃ y,xs[i]? = some y := fun i hi => ⟨xs[i]'(by rw [hlen]; exact hi),List.getElem?_eq_getElem (by rw [hlen]; exact hi)⟩
 obtain ⟨y0,e0⟩ := g 0 (by decide)
 obtain ⟨y1,e1⟩ := g 1 (by decide)
 obtain ⟨y2,e2⟩ := g 2 (by decide)
 rw [e0] at f0
 rw [e1] at f1
 rw [e2] at f2
 change DataW.trod _ _ _ _ _ _ n 3 (((Value.agg cs).cells.toList.drop 0).take (Tryz.prog.cellsOf 3)) = _ at f0
 change DataW.trod _ _ _ _ _ _ n 3 (((Value.agg cs).cells.toList.drop 1).take (Tryz.prog.cellsOf 3)) = _ at f1
 change DataW.trod _ _ _ _ _ _ n 3 (((Value.agg cs).cells.toList.drop 2).take (Tryz.prog.cellsOf 3)) = _ at f2
 rw [A3] at f0 f1 f2
 have hcs : (Value.agg cs).cells.toList = cs.toList := rfl
 rw [Im] at hl
 rw [hcs] at hl f0 f1 f2
 obtain ⟨a, b, c, hab⟩ : ∃ a b c, cs.toList = [a, b, c] := by
  match h : cs.toList,hl with
  | [a,b,c],_ => exact ⟨a,b,c,rfl⟩
 rw [hab] at f0 f1 f2
 obtain ⟨n0,q0,_,_⟩ := DataW.trod_int Tryz.underlying3 f0
 obtain ⟨n1,q1,_,_⟩ := DataW.trod_int Tryz.underlying3 f1
 obtain ⟨n2,q2,_,_⟩ := DataW.trod_int Tryz.underlying3 f2
 simp at q0 q1 q2
 subst q0 q1 q2
 refine ⟨⟨n0,n1,n2⟩,?_⟩
 simp only [Rd]
 refine ⟨[.int .i64 n0,.int .i64 n1,.int .i64 n2],by rw [← hab],?_⟩
 simp only [RdL]
 exact ⟨_,_,rfl,rfl,(by simp only [Rd]),_,_,rfl,rfl,(by simp only [Rd]),_,_,rfl,rfl,(by simp only [Rd]),rfl⟩
end
end Go.Proofs.YtgkalkgplcdnkaaGreat
namespace Go.Proofs.YtgkalkgplcdnkaaGreat
open Go.AL Go.RowKit
variable {N : Nat} {Q : Exit → AS → Prop} {all : Array Oper} {rest : List Oper} {tsl : List (Nat × AV)} {hsl : List (Nat × Option (List AV))} {nidl : Nat} {z0 : Lo} {md : Md} {d : Nat} {ty : TypeId} {pos : String} {af : Array Edge} {tys : Array TypeId}
theorem Ev (l:List Int) (hl:l.length ≤ 1048576):rT Tryz.prog 32 [sl cI l] (fun r E => ∃ a c B,r = .v (.slice a l.length c) ∧ E = [(.ints l,.slice a l.length c,B)]):=by
 (refine b0 Tryz.func32 rfl (by simp [Tryz.ntmps32]) ?_; rw [Tryz.ntmps32])
 refine awt_lift ?_
 repeat' (first|refine aC ?_|fail)
 rw [F9]
 refine aH (σ := Nat × List Int) [0,3] [] (fun k => [(4,iv (k.1 : Int))]) (fun k => [(0,some (flat cI k.2))]) (fun k => k.1 ≤ l.length ∧ k.2.length = l.length ∧ (∀ j,j < k.1 → k.2[j]! = l[j]!)) (fun k => l.length - k.1) (0,List.replicate l.length 0) ⟨by omega,by simp,by omega⟩ ?_
 rintro ⟨k,u⟩ ⟨hk,hul,hu⟩
 dsimp only at hk hul hu ⊢
 repeat' (first|refine aC ?_|(refine aJ ?_ ?_ <;> intro hc hq <;> try (exfalso;omega))|fail)
 ·(refine bC (k + 1, u.set k l[k]!) (Le.renA [(0, 0)]) ?_ ?_)
  ·refine ⟨by dsimp only; omega, by dsimp only; rw [List.length_set]; exact hul, fun j hj => ?_⟩
   dsimp only at hj ⊢
   rw [aP]
   by_cases e : k = j
   ·subst e;rw [if_pos ⟨rfl,by omega⟩]
   ·rw [if_neg (fun q => e q.1)]; exact hu j (by omega)
  ·dsimp only;omega
 ·have e : u = l := aY hul fun j hj => hu j (by omega)
  subst e
  exact HR rfl rfl rfl rfl (fun a c B => ⟨a,c,B,rfl,rfl⟩)
theorem C9 (m:Nat) (ih:∀ l,aM l < m → rT Tryz.prog 33 [sl aR l] (fun r E => ∃ a c B,r = .v (.slice a l.length c) ∧ E = [(.stms l,.slice a l.length c,B)])) (s:AL.Stmt) (hs:cJ s ≤ m) :
  rT Tryz.prog 77 [bV s] (fun r E => ∃ a4 c4 B4 a5 c5 B5,r = .agg [iv s.op,iv s.x,iv s.y,iv s.n,.v (.slice a4 s.th.length c4),.v (.slice a5 s.el.length c5)] ∧ E = [(.stms s.th,.slice a4 s.th.length c4,B4),(.stms s.el,.slice a5 s.el.length c5,B5)]) := by
 have hct := iA s
 have c1 := ih s.th (by omega)
 have c2 := ih s.el (by omega)
 (refine b0 Tryz.func77 rfl (by simp [Tryz.ntmps77]) ?_; rw [Tryz.ntmps77])
 iterate 6
  refine aS (awt_lift ?_)
  repeat' (first|refine aC ?_|fail)
  show dE _ _ _ _ _ _
 refine aS (bH ?_)
 refine aU (l1 := [_,_]) ?_
 repeat' (first|refine bB ?_|fail)
 refine ⟨rfl,?_⟩
 refine b7 rfl (.cons (.pur PurV.pf) .nil) c1 rfl ?_
 rintro _ _ ⟨a4,d4,B4,rfl,rfl⟩
 refine aU (l1 := [_,_]) (l2 := []) ?_
 repeat' (first|refine bB ?_|fail)
 refine ⟨rfl,?_⟩
 refine bO ?_
 show dE _ _ _ _ _ _
 refine aS (bH ?_)
 refine aU (l1 := [_,_]) ?_
 repeat' (first|refine bB ?_|fail)
 refine ⟨rfl,?_⟩
 refine b7 rfl (.cons (.pur PurV.pf) .nil) c2 rfl ?_
 rintro _ _ ⟨a5,d5,B5,rfl,rfl⟩
 refine aU (l1 := [_,_]) (l2 := []) ?_
 repeat' (first|refine bB ?_|fail)
 refine ⟨rfl,?_⟩
 refine bO ?_
 show dE _ _ _ _ _ _
 refine awt_lift ?_
 repeat' (first|refine aC ?_|fail)
 exact uS (l := [.agg [iv s.op,iv s.x,iv s.y,iv s.n,.v (.slice a4 s.th.length d4),.v (.slice a5 s.el.length d5)]]) rfl rfl rfl ⟨a4,d4,B4,a5,d5,B5,rfl,rfl⟩
theorem AX (m:Nat) (hm:m ≤ 1048576) (ih:∀ s,cJ s ≤ m → rT Tryz.prog 77 [bV s] (fun r E => ∃ a4 c4 B4 a5 c5 B5,r = .agg [iv s.op,iv s.x,iv s.y,iv s.n,.v (.slice a4 s.th.length c4),.v (.slice a5 s.el.length c5)] ∧ E = [(.stms s.th,.slice a4 s.th.length c4,B4),(.stms s.el,.slice a5 s.el.length c5,B5)]))
  (l : List AL.Stmt) (hs : aM l ≤ m) : rT Tryz.prog 33 [sl aR l] (fun r E => ∃ a c B,r = .v (.slice a l.length c) ∧ E = [(.stms l,.slice a l.length c,B)]) := by
 have hlen := dX l
 (refine b0 Tryz.func33 rfl (by simp [Tryz.ntmps33]) ?_; rw [Tryz.ntmps33])
 iterate 2
  refine aS (awt_lift ?_)
  repeat' (first|refine aC ?_|fail)
  show dE _ _ _ _ _ _
 refine aS (aS (awt_lift ?_))
 repeat' (first|refine aC ?_|fail)
 show dE _ _ _ _ _ _
 rw [FZ]
 refine lK ?_
 refine tG (σ := Nat × List SX) [0,3] [(0,_),(3,_)] [] [] (fun k => [(4,iv (k.1 : Int))]) (fun k => [(0,some (flat cT (k.2 ++ List.replicate (l.length - k.1) zT)))]) (fun k => j4 k.2) (fun k => k.1 ≤ l.length ∧ k.2.length = k.1 ∧ (∀ j,j < k.1 → k.2[j]!.1 = l[j]!)) (fun k => l.length - k.1) (0,[]) ⟨by omega,rfl,by omega⟩ (rfl) rfl rfl (by repeat' (first|exact trivial|refine And.intro rfl ?_)) (by repeat' (first|exact trivial|refine And.intro (.inr rfl) ?_)) ?_
 rintro ⟨k,u⟩ ⟨hk,hul,hu⟩
 dsimp only at hk hul hu ⊢
 have hol : (u ++ List.replicate (l.length - k) zT).length = l.length := by rw [List.length_append,List.length_replicate]; omega
 refine aS (aS (awt_lift ?_))
 repeat' (first|refine aC ?_|fail)
 show dE _ _ _ _ _ _
 refine k6 rfl (fun hb => k4 ?_) (fun hb => yQ ?_)
 ·show dE _ _ _ _ _ _
  have hkl : k < l.length := by have := of_decide_eq_true hb;omega
  have hck := eZ l k hkl
  have c1 := ih l[k]! (by omega)
  refine aS (lK (bH ?_))
  refine aU (l1 := [_,_,_,_,_,_]) ?_
  repeat' (first|refine bB ?_|fail)
  refine ⟨rfl,?_⟩
  refine b7 rfl (.cons (.pur PurV.pf) .nil) c1 rfl ?_
  rintro _ _ ⟨a4,d4,B4,a5,d5,B5,rfl,rfl⟩
  refine aU (l1 := [_,_]) (l2 := []) ?_
  repeat' (first|(apply aF;(apply b8;rfl;rfl;rfl;rfl;rfl;(rw [aK cT (e := 6)]; (show _ + 6 ≤ _);omega);exact KH (l[k]!,(.slice a4 l[k]!.th.length d4,B4),(.slice a5 l[k]!.el.length d5,B5)) (by omega)))|refine bB ?_|fail)
  refine ⟨rfl,?_⟩
  refine bO ?_
  show dE _ _ _ _ _ _
  refine awt_lift ?_
  repeat' (first|refine aC ?_|fail)
  have e : (u ++ List.replicate (l.length - k) zT).set k (l[k]!, (.slice a4 l[k]!.th.length d4, B4), (.slice a5 l[k]!.el.length d5, B5)) = (u ++ [(l[k]!, (.slice a4 l[k]!.th.length d4, B4), (.slice a5 l[k]!.el.length d5, B5))]) ++ List.replicate (l.length - (k + 1)) zT := by
   rw [show l.length - k = l.length - (k + 1) + 1 by omega,List.replicate_succ,← hul]
   rw [List.set_append_right _ _ (Nat.le_refl _),Nat.sub_self,List.set_cons_zero,List.append_assoc]; rfl
  rw [e]
  refine ⟨(k + 1,u ++ [(l[k]!,(.slice a4 l[k]!.th.length d4,B4),(.slice a5 l[k]!.el.length d5,B5))]),⟨by dsimp only;omega,by simp [hul],fun j hj => ?_⟩,by dsimp only;omega,?_,F6 _ _⟩
  ·dsimp only at hj ⊢
   by_cases e2 : j < k
   ·rw [aW _ _ (by simp;omega),List.getElem_append_left (by omega),← aW u j (by omega)]; exact hu j e2
   ·have : j = k := by omega
    subst this
    rw [aW _ _ (by simp;omega),List.getElem_append_right (by omega)]; simp [hul]
  ·refine Le.ren [(0,0)] rfl (by decide) ?_ ?_ <;> repeat' (first|exact trivial|refine And.intro ⟨_,rfl,?_⟩ ?_|refine And.intro ⟨_,_,rfl,rfl,?_⟩ ?_|exact Or.inr rfl|refine Or.inl ⟨?_,(by first|rfl|exact a8 _ _)⟩|rfl)
 ·have hkl : k = l.length := by have := of_decide_eq_false hb; omega
  show dE _ _ _ _ _ _
  have hm : u.map (·.1) = l := List.ext_getElem (by simp; omega) fun j h1 h2 => by
   have := hu j (by omega)
   rw [aW _ _ (by omega),aW _ _ h2] at this
   simpa using this
  have hul' : u.length = l.length := by omega
  rw [show u ++ List.replicate (l.length - k) zT = u by rw [hkl,Nat.sub_self]; simp]
  refine awt_lift ?_
  repeat' (first|refine aC ?_|fail)
  refine Ia rfl rfl rfl hul'.symm (fun a c B => ⟨a,c,B,?_,?_⟩)
  ·rw [hul']
  ·rw [hul',hm]
theorem Gl:∀ (m:Nat),m ≤ 1048576 → (∀ s,cJ s ≤ m → rT Tryz.prog 77 [bV s] (fun r E => ∃ a4 c4 B4 a5 c5 B5,r = .agg [iv s.op,iv s.x,iv s.y,iv s.n,.v (.slice a4 s.th.length c4),.v (.slice a5 s.el.length c5)] ∧ E = [(.stms s.th,.slice a4 s.th.length c4,B4),(.stms s.el,.slice a5 s.el.length c5,B5)])) ∧
  (∀ l,aM l ≤ m → rT Tryz.prog 33 [sl aR l] (fun r E => ∃ a c B,r = .v (.slice a l.length c) ∧ E = [(.stms l,.slice a l.length c,B)])) := by
 intro m
 induction m using Nat.strongRecOn with
 | ind m ih =>
  intro hm
  have h1 := fun s a1 => C9 m (fun l g1 => (ih (aM l) g1 (by omega)).2 l (Nat.le_refl _)) s a1
  exact ⟨h1,fun l g1 => AX m hm h1 l g1⟩
theorem xY (p:Prg) (hl:p.types.length ≤ 1048576) (hs:aM p.body ≤ 1048576):rT Tryz.prog 9 [cA p] (fun r E => ∃ a4 c4 B4 a5 c5 B5,r = .agg [.v (.slice a4 p.types.length c4),.v (.slice a5 p.body.length c5)] ∧ E = [(.ints p.types,.slice a4 p.types.length c4,B4),(.stms p.body,.slice a5 p.body.length c5,B5)]):=by
 have c1 := Ev p.types hl
 have c2 := (Gl _ hs).2 p.body (Nat.le_refl _)
 (refine b0 Tryz.func9 rfl (by simp [Tryz.ntmps9]) ?_; rw [Tryz.ntmps9])
 iterate 2
  refine aS (awt_lift ?_)
  repeat' (first|refine aC ?_|fail)
  show dE _ _ _ _ _ _
 refine aS (bH ?_)
 refine aU (l1 := [_,_]) ?_
 repeat' (first|refine bB ?_|fail)
 refine ⟨rfl,?_⟩
 refine b7 rfl (.cons (.pur PurV.pf) .nil) c1 rfl ?_
 rintro _ _ ⟨a4,d4,B4,rfl,rfl⟩
 refine aU (l1 := [_,_]) (l2 := []) ?_
 repeat' (first|refine bB ?_|fail)
 refine ⟨rfl,?_⟩
 refine bO ?_
 show dE _ _ _ _ _ _
 refine aS (bH ?_)
 refine aU (l1 := [_,_]) ?_
 repeat' (first|refine bB ?_|fail)
 refine ⟨rfl,?_⟩
 refine b7 rfl (.cons (.pur PurV.pf) .nil) c2 rfl ?_
 rintro _ _ ⟨a5,d5,B5,rfl,rfl⟩
 refine aU (l1 := [_,_]) (l2 := []) ?_
 repeat' (first|refine bB ?_|fail)
 refine ⟨rfl,?_⟩
 refine bO ?_
 show dE _ _ _ _ _ _
 refine awt_lift ?_
 repeat' (first|refine aC ?_|fail)
 exact uS (l := [.agg [.v (.slice a4 p.types.length d4),.v (.slice a5 p.body.length d5)]]) rfl rfl rfl ⟨a4,d4,B4,a5,d5,B5,rfl,rfl⟩
theorem qQ (l:List Int) (k:Int) (hk0:0 ≤ k) (hk:k + l.length ≤ 1000000000):TMk Tryz.prog 14 (.ints l) (.ints (sV k l.length)) k (k + l.length):=by
 refine D4 Tryz.func14 rfl (by simp [Tryz.ntmps14]) (nH _ _) (fun h => ?_) (fun h => ?_)
 ·subst h
  refine aD Tryz.func14 Tryz.ntmps14 ?_
  repeat' (first|refine aC ?_|fail)
  refine aH (σ := Unit) [0,1,5] [] (fun u => []) (fun u => []) (fun u => True) (fun u => 0) () trivial ?_
  rintro u _
  repeat' (first|refine aC ?_|fail)
  refine aI rfl ⟨?_,rfl⟩
  simp [aN]
 ·rw [Tryz.ntmps14]
  repeat' (first|refine aC ?_|fail)
  refine aH (σ := Nat × Int × List Int) [0] [] (fun i => [(5,iv (i.1 : Int)),(1,iv i.2.1)]) (fun i => [(0,some (flat cI i.2.2))]) (fun i => i.1 ≤ l.length ∧ i.2.1 = k + i.1 ∧ i.2.2 = sV k i.1 ++ l.drop i.1) (fun i => l.length - i.1) (0,k,l) ⟨by omega,by simp,by simp [sV]⟩ ?_
  rintro ⟨i,z,u⟩ ⟨hi,hz,hu⟩
  dsimp only at hi hz hu ⊢
  have hul : u.length = l.length := by rw [hu,List.length_append,nH,List.length_drop]; omega
  by_cases hil : i < l.length
  ·have e : u.set i z = sV k (i + 1) ++ l.drop (i + 1) := by
    rw [hu,DZ,List.drop_eq_getElem_cons hil,List.set_append_right _ _ (by rw [nH]; exact Nat.le_refl _),nH,Nat.sub_self,List.set_cons_zero,hz]; simp
   repeat' (first|refine aC ?_|(refine aJ ?_ ?_ <;> intro hc hq <;> try (exfalso;omega))|fail)
   rw [e]
   (refine bC (i + 1,z + 1,sV k (i + 1) ++ l.drop (i + 1)) (Le.renA []) ?_ ?_)
   ·exact ⟨by dsimp only;omega,by dsimp only;omega,rfl⟩
   ·dsimp only;omega
  ·have hie : i = l.length := by omega
   subst hie
   repeat' (first|refine aC ?_|(refine aJ ?_ ?_ <;> intro hc hq <;> try (exfalso;omega))|fail)
   refine ⟨.inl rfl,?_,?_⟩
   ·rw [hz]; rfl
   ·show some (flat cI u) = _
    rw [hu,List.drop_length,List.append_nil]
theorem J5 {xs:List SX}{k:Nat}{v:Int}(hk:k < xs.length):iQ (flat cT xs) (0 + k * 6 + 0) [iv v] = flat cT (xs.set k (.mk v xs[k]!.1.x xs[k]!.1.y xs[k]!.1.n xs[k]!.1.th xs[k]!.1.el,xs[k]!.2)) := lA hk (by simp) rfl
theorem I3 {xs:List SX}{k:Nat}{v:Int}(hk:k < xs.length):iQ (flat cT xs) (0 + k * 6 + 1) [iv v] = flat cT (xs.set k (.mk xs[k]!.1.op v xs[k]!.1.y xs[k]!.1.n xs[k]!.1.th xs[k]!.1.el,xs[k]!.2)) := lA hk (by simp) rfl
theorem IX {xs:List SX}{k:Nat}{v:Int}(hk:k < xs.length):iQ (flat cT xs) (0 + k * 6 + 2) [iv v] = flat cT (xs.set k (.mk xs[k]!.1.op xs[k]!.1.x v xs[k]!.1.n xs[k]!.1.th xs[k]!.1.el,xs[k]!.2)) := lA hk (by simp) rfl
theorem Kf {xs:List SX}{k:Nat}{v:Int}(hk:k < xs.length):iQ (flat cT xs) (0 + k * 6 + 3) [iv v] = flat cT (xs.set k (.mk xs[k]!.1.op xs[k]!.1.x xs[k]!.1.y v xs[k]!.1.th xs[k]!.1.el,xs[k]!.2)) := lA hk (by simp) rfl
theorem k9 (us rs:List SX) (a:SX):(us ++ a :: rs)[us.length]! = a:=by
 rw [aW _ _ (by simp),List.getElem_append_right (Nat.le_refl _)]; simp
theorem pS (us rs:List SX) (a b:SX):(us ++ a :: rs).set us.length b = us ++ b :: rs:=by
 rw [List.set_append_right _ _ (Nat.le_refl _),Nat.sub_self,List.set_cons_zero]
theorem KD {us rs:List SX}{o x y n v:Int}{th el:List AL.Stmt}{p:(Value × List Nat) × (Value × List Nat)}:iQ (flat cT (us ++ (.mk o x y n th el,p) :: rs)) (0 + us.length * 6 + 0) [iv v] = flat cT (us ++ (.mk v x y n th el,p) :: rs):=by
 rw [J5 (by simp),k9,pS]; rfl
theorem KM {us rs:List SX}{o x y n v:Int}{th el:List AL.Stmt}{p:(Value × List Nat) × (Value × List Nat)}:iQ (flat cT (us ++ (.mk o x y n th el,p) :: rs)) (0 + us.length * 6 + 1) [iv v] = flat cT (us ++ (.mk o v y n th el,p) :: rs):=by
 rw [I3 (by simp),k9,pS]; rfl
theorem KE {us rs:List SX}{o x y n v:Int}{th el:List AL.Stmt}{p:(Value × List Nat) × (Value × List Nat)}:iQ (flat cT (us ++ (.mk o x y n th el,p) :: rs)) (0 + us.length * 6 + 2) [iv v] = flat cT (us ++ (.mk o x v n th el,p) :: rs):=by
 rw [IX (by simp),k9,pS]; rfl
theorem Kv {us rs:List SX}{o x y n v:Int}{th el:List AL.Stmt}{p:(Value × List Nat) × (Value × List Nat)}:iQ (flat cT (us ++ (.mk o x y n th el,p) :: rs)) (0 + us.length * 6 + 3) [iv v] = flat cT (us ++ (.mk o x y v th el,p) :: rs):=by
 rw [Kf (by simp),k9,pS]; rfl
theorem Jh (us rs:List SX) (a b:SX) (h:cT a = cT b):flat cT (us ++ a :: rs) = flat cT (us ++ b :: rs):=by
 rw [← bX,← bX]
 congr 1
 show cT a ++ flat cT rs = cT b ++ flat cT rs
 rw [h]
theorem BQ (us rs:List SX) (a:SX):j4 (us ++ a :: rs) = j4 us ++ ([(.stms a.1.th,a.2.1.1,a.2.1.2)] ++ ([(.stms a.1.el,a.2.2.1,a.2.2.2)] ++ j4 rs)):=by
 unfold j4;rw [List.flatMap_append]; simp
theorem zN (n:Nat) (k:Int) (hk0:0 ≤ k) (hk:k + n ≤ 1000000000):PC Tryz.prog 15 [sl cI (sV k n),iv k] (fun r => r = iv (k + n)):=by
 have hl := nH k n
 have hg : ∀ i,i < n → (sV k n)[i]! = k + (i : Int) := fun i hi => a6 _ _ _ hi
 generalize sV k n = L at *
 refine aD Tryz.func15 Tryz.ntmps15 ?_
 repeat' (first|refine aC ?_|fail)
 refine aH (σ := Nat × Int) [0] [] (fun i => [(5,iv (i.1 : Int)),(1,iv i.2)]) (fun i => []) (fun i => i.1 ≤ n ∧ i.2 = k + i.1) (fun i => n - i.1) (0,k) ⟨by omega,by simp⟩ ?_
 rintro ⟨i,z⟩ ⟨hi,hz⟩
 dsimp only at hi hz ⊢
 by_cases hin : i < n
 ·have hgi := hg i hin
  repeat' (first|refine aC ?_|(refine aJ ?_ ?_ <;> intro hc hq <;> try (exfalso;omega))|fail)
  all_goals first
   | (exfalso;omega)
   | ((refine bC (i + 1, z + 1) (Le.renA []) ?_ ?_)
      ·exact ⟨by dsimp only;omega,by dsimp only;omega⟩
      ·dsimp only;omega)
 ·have hie : i = n := by omega
  subst hie
  repeat' (first|refine aC ?_|(refine aJ ?_ ?_ <;> intro hc hq <;> try (exfalso;omega))|fail)
  refine aI rfl ⟨?_,rfl⟩
  simp only [aN,hz]
theorem pC (us rs:List SX) (a:SX) (j:Nat) (hj:j < 6):0 + us.length * 6 + j + 1 ≤ (flat cT (us ++ a :: rs)).length:=by
 rw [aK cT (e := 6),List.length_append,List.length_cons]; omega
theorem uX (m:Nat) (hm:m ≤ 1048576) (ih:∀ l (k:Int),aM l < m → 0 ≤ k → k + 4 * (aM l:Nat) ≤ 1000000000 → TMk Tryz.prog 39 (.stms l) (.stms (oM k l)) k (k + 4 * (aM l:Nat))) (l:List AL.Stmt) (k:Int) (hs:aM l ≤ m) (hk0:0 ≤ k) (hk:k + 4 * (aM l:Nat) ≤ 1000000000) :
  TMk Tryz.prog 39 (.stms l) (.stms (oM k l)) k (k + 4 * (aM l : Nat)) := by
 have hlen := dX l
 refine FT Tryz.func39 rfl (by simp [Tryz.ntmps39]) (fun h => ?_) (fun h xs hxs => ?_)
 ·subst h
  refine ⟨by simp [oM],?_⟩
  refine aD Tryz.func39 Tryz.ntmps39 ?_
  repeat' (first|refine aC ?_|fail)
  refine aH (σ := Unit) [0,1,5] [] (fun u => []) (fun u => []) (fun u => True) (fun u => 0) () trivial ?_
  rintro u _
  repeat' (first|refine aC ?_|fail)
  refine aI rfl ⟨?_,rfl⟩
  simp [aN,aM]
 ·rw [Tryz.ntmps39]
  have hxl : xs.length = l.length := by have := congrArg List.length hxs;simpa using this
  iterate 1
   refine aS (awt_lift ?_)
   repeat' (first|refine aC ?_|fail)
   show dE _ _ _ _ _ _
  refine aS (aS (awt_lift ?_))
  repeat' (first|refine aC ?_|fail)
  show dE _ _ _ _ _ _
  refine lK ?_
  refine tG (σ := Nat × Int × List SX) [0] [(0,_)] [] [] (fun i => [(5,iv (i.1 : Int)),(1,iv i.2.1)]) (fun i => [(0,some (flat cT (i.2.2 ++ xs.drop i.1)))]) (fun i => j4 (i.2.2 ++ xs.drop i.1)) (fun i => i.1 ≤ l.length ∧ i.2.1 = k + 4 * (aM (l.take i.1) : Nat) ∧ i.2.2.length = i.1 ∧ i.2.2.map (·.1) = oM k (l.take i.1) ∧ i.2.2.map (·.2) = (xs.take i.1).map (·.2)) (fun i => l.length - i.1) (0,k,[]) ⟨by omega,by simp [aM],rfl,by simp [oM],by simp⟩ (rfl) rfl rfl (by repeat' (first|exact trivial|refine And.intro rfl ?_)) (by repeat' (first|exact trivial|refine And.intro (.inr rfl) ?_)) ?_
  rintro ⟨i,z,us⟩ ⟨hi,hz,hul,hu1,hu2⟩
  dsimp only at hi hz hul hu1 hu2 ⊢
  have hol : (us ++ xs.drop i).length = l.length := by rw [List.length_append,List.length_drop]; omega
  refine aS (aS (awt_lift ?_))
  repeat' (first|refine aC ?_|fail)
  show dE _ _ _ _ _ _
  refine k6 rfl (fun hb => k4 ?_) (fun hb => yQ ?_)
  ·show dE _ _ _ _ _ _
   have hil : i < l.length := by have := of_decide_eq_true hb;omega
   have hdr : xs.drop i = xs[i]! :: xs.drop (i + 1) := by rw [List.drop_eq_getElem_cons (by omega),aW _ _ (by omega)]
   have hx1 : xs[i]!.1 = l[i]! := by
    have : (xs.map (·.1))[i]! = l[i]! := by rw [hxs]
    rw [aW _ _ (by simp;omega),List.getElem_map] at this
    rw [aW _ _ (by omega)]; exact this
   have hck := eZ l i hil
   have hct := iA l[i]!
   have hts := qT hil
   have hms := rW hil k
   have hcl : aM (l.take (i + 1)) ≤ aM l := by have := j9 (l.take (i + 1)) (l.drop (i + 1));rw [List.take_append_drop] at this;omega
   have hsd := BF z l[i]!
   have hcd := hO l[i]!
   have htk : xs.take (i + 1) = xs.take i ++ [xs[i]!] := by rw [aW _ _ (by omega),List.take_succ_eq_append_getElem (by omega)]
   rw [hdr] at hol ⊢
   rw [← hx1] at hck hct hts hms hsd hcd
   generalize hrs : xs.drop (i + 1) = rs at *
   generalize xs[i]! = a at *
   obtain ⟨⟨o,x,y,n,th,el⟩,⟨y4,B4⟩,⟨y5,B5⟩⟩ := a
   have hcd : cJ (.mk o x y n th el) = 1 + aM th + aM el := hO (.mk o x y n th el)
   have hts : aM (l.take (i + 1)) = aM (l.take i) + cJ (.mk o x y n th el) := hts
   have hck : cJ (.mk o x y n th el) ≤ aM l := hck
   have hsd : Ik z (.mk o x y n th el) = .mk z (z + 1) (z + 2) (z + 3) (oM (z + 4) th) (oM (z + 4 + 4 * (aM th : Nat)) el) := BF z (.mk o x y n th el)
   have m1 := ih th (z + 4) (by omega) (by omega) (by omega)
   have m2 := ih el (z + 4 + 4 * (aM th : Nat)) (by omega) (by omega) (by omega)
   subst hul
   have hol : us.length + (rs.length + 1) = l.length := by rw [← hol]; simp
   refine aS (lK ?_)
   refine aS (awt_lift ?_)
   repeat' (first|(apply aF;(apply b8;rfl;rfl;rfl;rfl;rfl;exact pC _ _ _ 0 (by decide);exact KD))|refine aC ?_|fail)
   show dE _ _ _ _ _ _
   refine aS (awt_lift ?_)
   repeat' (first|refine aC ?_|fail)
   show dE _ _ _ _ _ _
   refine aS (awt_lift ?_)
   repeat' (first|(apply aF;(apply b8;rfl;rfl;rfl;rfl;rfl;exact pC _ _ _ 1 (by decide);exact KM))|refine aC ?_|fail)
   show dE _ _ _ _ _ _
   refine aS (awt_lift ?_)
   repeat' (first|refine aC ?_|fail)
   show dE _ _ _ _ _ _
   refine aS (awt_lift ?_)
   repeat' (first|(apply aF;(apply b8;rfl;rfl;rfl;rfl;rfl;exact pC _ _ _ 2 (by decide);exact KE))|refine aC ?_|fail)
   show dE _ _ _ _ _ _
   refine aS (awt_lift ?_)
   repeat' (first|refine aC ?_|fail)
   show dE _ _ _ _ _ _
   refine aS (awt_lift ?_)
   repeat' (first|(apply aF;(apply b8;rfl;rfl;rfl;rfl;rfl;exact pC _ _ _ 3 (by decide);exact Kv))|refine aC ?_|fail)
   show dE _ _ _ _ _ _
   refine aS (awt_lift ?_)
   repeat' (first|refine aC ?_|fail)
   show dE _ _ _ _ _ _
   have hlt : ∀ b : SX,us.length < (us ++ b :: rs).length := fun b => by simp
   rw [show z + 1 + 1 + 1 + 1 = z + 4 by omega,show z + 1 + 1 + 1 = z + 3 by omega,show z + 1 + 1 = z + 2 by omega]
   refine aS (bH ?_)
   refine aU (l1 := [_,_,_,_,_,_]) ?_
   repeat' (first|(apply aF;(apply n7;(case hx|hH => rfl);(case hf|hg|hα => infer_instance);(case hk => exact hlt _);(case hc|hN => rfl)))|refine bB ?_|fail)
   rw [k9]
   refine ⟨rfl,?_⟩
   refine iU (j4 us) [(.stms th,y4,B4)] ([(.stms el,y5,B5)] ++ j4 rs) (E0' := [(.stms (oM (z + 4) th),y4,B4)]) (BQ _ _ _) rfl rfl (m1.e y4 B4) rfl rfl ?_
   refine aU (l1 := [_]) (l2 := []) ?_
   repeat' (first|refine bB ?_|fail)
   refine ⟨rfl,bO ?_⟩
   show dE _ _ _ _ _ _
   refine bH ?_
   refine aU (l1 := [_,_,_,_,_,_]) ?_
   repeat' (first|(apply aF;(apply n7;(case hx|hH => rfl);(case hf|hg|hα => infer_instance);(case hk => exact hlt _);(case hc|hN => rfl)))|refine bB ?_|fail)
   rw [k9]
   refine ⟨rfl,?_⟩
   refine iU (j4 us ++ [(.stms (oM (z + 4) th),y4,B4)]) [(.stms el,y5,B5)] (j4 rs) (E0' := [(.stms (oM (z + 4 + 4 * (aM th : Nat)) el),y5,B5)]) (by simp) rfl rfl (m2.e y5 B5) rfl rfl ?_
   refine aU (l1 := [_]) (l2 := []) ?_
   repeat' (first|refine bB ?_|fail)
   refine ⟨rfl,bO ?_⟩
   show dE _ _ _ _ _ _
   refine awt_lift ?_
   repeat' (first|refine aC ?_|fail)
   rw [Jh us rs _ ((Ik z (.mk o x y n th el),(y4,B4),(y5,B5)) : SX) (by rw [hsd]; rfl)]
   have hE : j4 ((us ++ [((Ik z (.mk o x y n th el), (y4, B4), (y5, B5)) : SX)]) ++ rs) = j4 us ++ [(.stms (oM (z + 4) th), y4, B4)] ++ ([(.stms (oM (z + 4 + 4 * (aM th : Nat)) el), y5, B5)] ++ j4 rs) := by
    rw [List.append_assoc,List.singleton_append,BQ,hsd]; simp [AL.Stmt.th,AL.Stmt.el]
   refine ⟨(us.length + 1,z + 4 + 4 * (aM th : Nat) + 4 * (aM el : Nat),us ++ [((Ik z (.mk o x y n th el),(y4,B4),(y5,B5)) : SX)]),⟨by dsimp only;omega,by dsimp only;omega,by simp,?_,?_⟩,by dsimp only;omega,?_,?_⟩
   ·dsimp only
    rw [List.map_append,hu1,hms,hz]; rfl
   ·dsimp only
    rw [List.map_append,hu2,htk,List.map_append]; rfl
   ·dsimp only
    rw [hrs,List.append_assoc,List.singleton_append]
    refine Le.ren [] rfl (by decide) ?_ ?_ <;> repeat' (first|exact trivial|refine And.intro ⟨_,rfl,?_⟩ ?_|refine And.intro ⟨_,_,rfl,rfl,?_⟩ ?_|exact Or.inr rfl|refine Or.inl ⟨?_,(by first|rfl|exact a8 _ _)⟩|rfl)
   ·dsimp only
    rw [hrs]; exact hE
  ·have hil : i = l.length := by have := of_decide_eq_false hb; omega
   subst hil
   show dE _ _ _ _ _ _
   rw [show xs.drop l.length = [] from List.drop_of_length_le (by omega),List.append_nil]
   rw [List.take_length] at hz hu1
   refine awt_lift ?_
   repeat' (first|refine aC ?_|fail)
   refine ⟨.inl rfl,?_,us,rfl,?_,hu1,?_⟩
   ·rw [hz]; rfl
   ·rfl
   ·rw [hu2,List.take_of_length_le (by omega)]
theorem wF:∀ (m:Nat),m ≤ 1048576 → ∀ (l:List AL.Stmt) (k:Int),aM l ≤ m → 0 ≤ k → k + 4 * (aM l:Nat) ≤ 1000000000 → TMk Tryz.prog 39 (.stms l) (.stms (oM k l)) k (k + 4 * (aM l:Nat)):=by
 intro m
 induction m using Nat.strongRecOn with
 | ind m ih =>
  intro hm l k hl h0 hk
  exact uX m hm (fun l' k' h1 h2 h3 => ih (aM l') h1 (by omega) l' k' (Nat.le_refl _) h2 h3) l k hl h0 hk
theorem rZ (p:Prg) (k:Int) (hl:p.types.length ≤ 1048576) (hs:aM p.body ≤ 1048576) (hk0:0 ≤ k) (hk:k ≤ 1048576) (a4:Option Addr) (c4:Nat) (B4:List Nat) (a5:Option Addr) (c5:Nat) (B5:List Nat) :
  K4 Tryz.prog 13 [.agg [.v (.slice a4 p.types.length c4), .v (.slice a5 p.body.length c5)], iv k] [(.ints p.types, .slice a4 p.types.length c4, B4), (.stms p.body, .slice a5 p.body.length c5, B5)]
   [(.ints (sV k p.types.length),.slice a4 p.types.length c4,B4),(.stms (oM (k + p.types.length) p.body),.slice a5 p.body.length c5,B5)] (k + p.types.length + 4 * (aM p.body : Nat)) := by
 have m1 := qQ p.types k hk0 (by omega)
 have m2 := wF _ hs p.body (k + p.types.length) (Nat.le_refl _) (by omega) (by omega)
 refine A4 Tryz.func13 rfl (by simp [Tryz.ntmps13]) ?_ rfl
 rw [Tryz.ntmps13]
 refine aS (awt_lift ?_)
 repeat' (first|refine aC ?_|fail)
 show dE _ _ _ _ _ _
 refine aS (bH ?_)
 refine aU (l1 := [_,_,_]) ?_
 repeat' (first|refine bB ?_|fail)
 refine ⟨rfl,?_⟩
 refine iU [] [(.ints p.types,.slice a4 p.types.length c4,B4)] [(.stms p.body,.slice a5 p.body.length c5,B5)] (E0' := [(.ints (sV k p.types.length),.slice a4 p.types.length c4,B4)]) rfl rfl rfl (m1.e _ B4) rfl rfl ?_
 refine aU (l1 := [_]) (l2 := []) ?_
 repeat' (first|refine bB ?_|fail)
 refine ⟨rfl,bO ?_⟩
 show dE _ _ _ _ _ _
 refine aS (bH ?_)
 refine aU (l1 := [_,_,_]) ?_
 repeat' (first|refine bB ?_|fail)
 refine ⟨rfl,?_⟩
 refine iU [(.ints (sV k p.types.length),.slice a4 p.types.length c4,B4)] [(.stms p.body,.slice a5 p.body.length c5,B5)] [] (E0' := [(.stms (oM (k + p.types.length) p.body),.slice a5 p.body.length c5,B5)]) rfl rfl rfl (m2.e _ B5) rfl rfl ?_
 refine aU (l1 := [_]) (l2 := []) ?_
 repeat' (first|refine bB ?_|fail)
 refine ⟨rfl,bO ?_⟩
 show dE _ _ _ _ _ _
 refine awt_lift ?_
 repeat' (first|refine aC ?_|fail)
 exact ⟨.inl rfl,rfl,rfl⟩
theorem H3 {Ls:List (List Int)}{x0:Operand}(ha0:ev (lk tsl) x0 = some (sl IE Ls)) (hmc:MC Tryz.prog 72 [sl IE Ls] [] 0 (fun _:Unit => True) (fun _ => .own 0 0 Ls.flatten.length 1) (fun _ => [(0,some (flat cI Ls.flatten))])) (hM:Nat.ble (nidl + 1) aT = true) (hN:Nat.blt d N = true){md':Md}[hmd:MdA md (jU [x0] ++ []) (List.map Sum.inr (List.map Prod.fst ([(nidl,some (flat cI Ls.flatten))]:List (Nat × Option (List AV)))) ++ [.inl d]) md'] (kk:RW Tryz.prog N all Q md' rest ⟨(d,.own nidl 0 Ls.flatten.length 1) :: tsl,nK hsl [(nidl,some (flat cI Ls.flatten))],nidl + 1,z0⟩):RW Tryz.prog N all Q md (⟨some d,.call ⟨.value (.func 72),#[x0],tys⟩,ty,pos,af,none⟩ :: rest) ⟨tsl,hsl,nidl,z0⟩:=by
 exact bY (l := [x0]) [] 1 [(nidl,some (flat cI Ls.flatten))] hmc (avs := [sl IE Ls]) (by simp only [evL,ha0]) rfl hM hN (md' := md') (hmd := hmd) kk
theorem Jl (Ls:List (List Int)) (hn:Ls.length ≤ 1000) (hl:Ls.flatten.length ≤ 1048576):MC Tryz.prog 72 [sl IE Ls] [] 0 (fun _:Unit => True) (fun _ => .own 0 0 Ls.flatten.length 1) (fun _ => [(0,some (flat cI Ls.flatten))]):=by
 have hpre : ∀ k, (Ls.take k).flatten.length ≤ 1048576 := fun k => by
  have : Ls.flatten = (Ls.take k).flatten ++ (Ls.drop k).flatten := by rw [← List.flatten_append,List.take_append_drop]
  rw [this,List.length_append] at hl;omega
 have hst : ∀ k,k < Ls.length → (Ls.take (k + 1)).flatten = (Ls.take k).flatten ++ Ls[k]! := fun k hk => by rw [dK _ _ hk]; simp
 refine cS Tryz.func72 Tryz.ntmps72 ?_
 repeat' (first|refine aC ?_|fail)
 refine aH (σ := Nat × Int) [0,9,10] [] (fun k => [(11,iv (k.1 : Int)),(3,iv k.2)]) (fun k => []) (fun k => k.1 ≤ Ls.length ∧ k.2 = ((Ls.take k.1).flatten.length : Int)) (fun k => Ls.length - k.1) (0,0) ⟨by omega,rfl⟩ ?_
 rintro ⟨k,z⟩ ⟨hk,hz⟩
 dsimp only at hk hz
 try dsimp only
 have hz2 := hpre k
 by_cases hkn : k < Ls.length
 ·have h1 := hst k hkn
  have h2 := hpre (k + 1)
  rw [h1,List.length_append] at h2
  repeat' (first|refine aC ?_|(refine aJ ?_ ?_ <;> intro hc hq <;> try (exfalso;omega))|fail)
  (refine bC (k + 1,_) (Le.renA []) ?_ ?_)
  ·exact ⟨by dsimp only;omega,by dsimp only;rw [h1,List.length_append]; omega⟩
  ·dsimp only;omega
 ·obtain ⟨z', rfl⟩ : ∃ z' : Nat, z = (z' : Int) := ⟨_, hz⟩
  repeat' (first|(apply aF;(apply B7;rfl;rfl;(apply DP <;> (omega));rfl;rfl))|refine aC ?_|(refine aJ ?_ ?_ <;> intro hc hq <;> try (exfalso;omega))|fail)
  refine aH (σ := Nat × List Int × Nat) [25,26] [] (fun k => [(27,iv (k.1 : Int)),(6,.own 0 0 k.2.2 1)]) (fun k => [(0,some (flat cI k.2.1))]) (fun k => k.1 ≤ Ls.length ∧ k.2.1 = (Ls.take k.1).flatten ∧ k.2.2 = k.2.1.length) (fun k => Ls.length - k.1) (0,[],0) ⟨by omega,rfl,rfl⟩ ?_
  rintro ⟨k,u,m⟩ ⟨hk,hu,hm⟩
  dsimp only at hk hu hm
  try dsimp only
  have hu2 := hpre k
  rw [← hu] at hu2
  by_cases hkn : k < Ls.length
  ·have h1 := hst k hkn
   have h2 := hpre (k + 1)
   rw [h1,List.length_append,← hu] at h2
   repeat' (first|(apply aF;(apply cD;rfl;rfl;rfl;rfl;rfl;(rw [aK]; omega);(exact oN (by (rfl)));omega;omega;(exact kP (by (assumption)));rfl;rfl))|refine aC ?_|(refine aJ ?_ ?_ <;> intro hc hq <;> try (exfalso;omega))|fail)
   (refine bC (k + 1,_,_) (Le.renA [(0,1)]) ?_ ?_)
   ·exact ⟨by dsimp only;omega,by dsimp only;rw [h1,hu],by dsimp only;rw [List.length_append]; omega⟩
   ·dsimp only;omega
  ·repeat' (first | refine aC ?_ | (refine aJ ?_ ?_ <;> intro hc hq <;> try (exfalso; omega))|fail)
   have e : u = Ls.flatten := by rw [hu,show k = Ls.length by omega,List.take_length]
   subst hm
   subst e
   refine aI rfl ?_
   refine eI () trivial ?_ ⟨sE ?_,trivial⟩
   ·rfl
   ·rfl
theorem Jx {ts:List Int}{bd:List AL.Stmt}{pts:List Pnt}{f t:Nat}{x0 x1 x2:Operand}(ha0:ev (lk tsl) x0 = some (aG ts bd pts)) (ha1:ev (lk tsl) x1 = some (iv (f:Int))) (ha2:ev (lk tsl) x2 = some (iv (t:Int))) (hmc:MC Tryz.prog 71 [aG ts bd pts,iv (f:Int),iv (t:Int)] [] 0 (fun _:Unit => True) (fun _ => .tup [.own 4 0 (dT (cO pts f t)).length 1,bv true]) (fun _ => [(4,some (flat cI (dT (cO pts f t))))])) (hM:Nat.ble (nidl + 5) aT = true) (hN:Nat.blt d N = true){md':Md}[hmd:MdA md (jU [x0,x1,x2] ++ []) (List.map Sum.inr (List.map Prod.fst ([((nidl + 4),some (flat cI (dT (cO pts f t))))]:List (Nat × Option (List AV)))) ++ [.inl d]) md'] (kk:RW Tryz.prog N all Q md' rest ⟨(d,.tup [.own (nidl + 4) 0 (dT (cO pts f t)).length 1,bv true]) :: tsl,nK hsl [((nidl + 4),some (flat cI (dT (cO pts f t))))],nidl + 5,z0⟩):RW Tryz.prog N all Q md (⟨some d,.call ⟨.value (.func 71),#[x0,x1,x2],tys⟩,ty,pos,af,none⟩ :: rest) ⟨tsl,hsl,nidl,z0⟩:=by
 exact bY (l := [x0,x1,x2]) [] 5 [((nidl + 4),some (flat cI (dT (cO pts f t))))] hmc (avs := [aG ts bd pts,iv (f : Int),iv (t : Int)]) (by simp only [evL,ha0,ha1,ha2]) rfl hM hN (md' := md') (hmd := hmd) kk
theorem KR (ts:List Int) (bd:List AL.Stmt) (pts:List Pnt) (f t:Nat) (w:WG ts pts) (hf:f < pts.length) (ht:t < pts.length) (hwy:cO pts f t ≠ []):MC Tryz.prog 71 [aG ts bd pts,iv (f:Int),iv (t:Int)] [] 0 (fun _:Unit => True) (fun _ => .tup [.own 4 0 (dT (cO pts f t)).length 1,bv true]) (fun _ => [(4,some (flat cI (dT (cO pts f t))))]):=by
 have hpl := w.pl
 have hbe : ∀ h,BI pts f (gX pts f h) := l6 w.nx hf
 refine cS Tryz.func71 Tryz.ntmps71 ?_
 repeat' (first|refine aC ?_|fail)
 rw [Fa]
 refine aH (σ := Nat × List Int) [0,1,2,8,23] [] (fun k => [(24,iv (k.1 : Int))]) (fun k => [(0,some (flat cI k.2))]) (fun k => k.1 ≤ pts.length ∧ k.2.length = pts.length ∧ (∀ l,l < k.1 → k.2[l]! = -1)) (fun k => pts.length - k.1) (0,List.replicate pts.length 0) ⟨by omega,by simp,by omega⟩ ?_
 rintro ⟨k,u⟩ ⟨hk,hul,hu⟩
 dsimp only at hk hul hu
 try dsimp only
 by_cases hkn : k < pts.length
 ·repeat' (first | refine aC ?_ | (refine aJ ?_ ?_ <;> intro hc hq <;> try (exfalso; omega))|fail)
  (refine bC (k + 1,_) (Le.renA [(0,0)]) ?_ ?_)
  ·refine ⟨by omega, by dsimp only; rw [List.length_set]; exact hul, fun l hl => ?_⟩
   dsimp only at hl ⊢
   rw [aP]
   by_cases e : k = l
   ·rw [if_pos ⟨e,by omega⟩]
   ·rw [if_neg (by omega)]; exact hu l (by omega)
  ·dsimp only;omega
 ·repeat' (first | refine aC ?_ | (refine aJ ?_ ?_ <;> intro hc hq <;> try (exfalso; omega))|fail)
  have hbk0 : u = mY pts.length [] := aY (by rw [dQ,hul]) fun l hl => by rw [hu l (by omega),dS (by omega)]; rfl
  subst hbk0
  refine aH (σ := Nat × List (Nat × Nat) × List Int × Nat) [0,1,2,8] [] (fun s => [(10,.own 1 0 s.2.2.2 1)]) (fun s => [(0,some (flat cI (mY pts.length s.2.1))),(1,some (flat cI s.2.2.1))]) (fun s => s.2.1 = gX pts f s.1 ∧ s.2.2.1 = dL f s.2.1 s.1 ∧ s.2.2.2 = s.2.2.1.length ∧ s.1 ≤ s.2.1.length + 1 ∧ (0 ≤ eX s.2.1 t → 0 < s.2.2.2)) (fun s => pts.length + 1 - s.1) (0,[],[(f : Int)],1) ⟨rfl,rfl,rfl,by dsimp only;omega,fun h => by dsimp only;omega⟩ ?_
  rintro ⟨h,E,T,m⟩ ⟨hE,hT,hm,hh,hmt⟩
  dsimp only at hE hT hm hh hmt
  try dsimp only
  have I := hbe h
  rw [← hE] at I
  have hle := I.le w.nx
  have hbt : (mY pts.length E)[t]! = eX E t := dS ht
  have hbl := dQ pts.length E
  by_cases hlk : eX E t < 0
  by_cases hgo : 0 < T.length
  ·have hlt : h < (iD f E).length := by
    have := gL f E h;rw [dI]; rw [← hT] at this;omega
   have hcons := mJ hlt
   have hqo := tQ hlt
   obtain ⟨a,ha⟩ : ∃ a,a = (iD f E)[h]! := ⟨_,rfl⟩
   rw [← ha] at hcons hqo
   have hal : a < pts.length := by
    rcases hqo with e|e
    ·rw [e]; exact hf
    ·obtain ⟨x,hx,e⟩ := List.mem_map.1 e;rw [← e]; exact (hle.2 x hx).1
   rw [hcons] at hT
   subst hT
   simp only [List.length_cons] at hm
   repeat' (first|(apply aF;first|(with_reducible apply cP (d := 10))|(apply jI;rfl;rfl;omega;rfl))|refine aC ?_|(refine aJ ?_ ?_ <;> intro hc hq <;> try (exfalso;omega))|(refine b9 ?_ ?_ <;> intro hg hq <;> try (exfalso;omega))|fail)
   refine fF (eG ?_ (Le.mvO (d := 47) (i := 1) rfl rfl (by simp [aK]) (by decide)))
   have hnl := w.nl a hal
   have hpop : dL f E (h + 1) = dL f (fS E a (pts[a]!.next.take 0)) (h + 1) := rfl
   have hnk := w.nx a hal
   have hek : ∀ k,BI pts f (fS E a (pts[a]!.next.take k)) := fun k => qK _ _ I hqo (fun z hz => ⟨hal,by have := hnk z (List.mem_of_mem_take hz);rw [Int.toNat_of_nonneg this.1]; exact List.mem_of_mem_take hz⟩)
   repeat' (first|refine aC ?_|fail)
   refine aH (σ := Nat × List (Nat × Nat) × List Int × Nat) [0,1,2,8,55,56] [] (fun s => [(57,iv (s.1 : Int)),(11,iv (a : Int)),(10,.own 2 0 s.2.2.2 1)]) (fun s => [(0,some (flat cI (mY pts.length s.2.1))),(2,some (flat cI s.2.2.1))]) (fun s => s.1 ≤ pts[a]!.next.length ∧ s.2.1 = fS E a (pts[a]!.next.take s.1) ∧ s.2.2.1 = dL f s.2.1 (h + 1) ∧ s.2.2.2 = s.2.2.1.length) (fun s => pts[a]!.next.length - s.1) (0,E,dL f E (h + 1),m - 1) ⟨by omega,rfl,hpop,by dsimp only;omega⟩ ?_
   rintro ⟨k,E2,T2,m2⟩ ⟨hk,hE2,hT2,hm2⟩
   dsimp only at hk hE2 hT2 hm2
   try dsimp only
   have I2 := hek k
   rw [← hE2] at I2
   have hle2 := I2.le w.nx
   have hbl2 := dQ pts.length E2
   have htl2 := gL f E2 (h + 1)
   rw [← hT2] at htl2
   by_cases hkn : k < pts[a]!.next.length
   ·have hz := hnk _ (aZ _ _ hkn)
    have hbz : (mY pts.length E2)[(pts[a]!.next[k]!).toNat]! = eX E2 (pts[a]!.next[k]!).toNat := dS (by omega)
    have hsu := n8 E a pts[a]!.next k hkn
    rw [← hE2] at hsu
    have hql : h + 1 ≤ (iD f E2).length := by
     have h1 := eJ a (pts[a]!.next.take k) E
     rw [← hE2] at h1
     have := h1.length_le
     rw [dI] at hlt ⊢; omega
    by_cases hlz : eX E2 (pts[a]!.next[k]!).toNat < 0
    ·repeat' (first | (apply aF; (apply aL (t := _);rfl;rfl;rfl;exact (rfl:_=some [_]);rfl;rfl)) | refine aC ?_ | (refine aJ ?_ ?_ <;> intro hc hq <;> try (exfalso; omega))|fail)
     rw [pL hlz (by omega)]
     (refine bC (k + 1,_,_,_) (Le.renA [(0,0),(2,4)]) ?_ ?_)
     ·refine ⟨by dsimp only;omega,by dsimp only;rw [hsu,pG hlz],by dsimp only;rw [oF hql,hT2,Int.toNat_of_nonneg hz.1],by dsimp only;rw [List.length_append]; simp;omega⟩
     ·dsimp only;omega
    ·repeat' (first | refine aC ?_ | (refine aJ ?_ ?_ <;> intro hc hq <;> try (exfalso; omega))|fail)
     (refine bC (k + 1,E2,T2,m2) (Le.renA [(0,0),(2,2)]) ?_ ?_)
     ·refine ⟨by dsimp only;omega,by dsimp only;rw [hsu,vN (by omega)],hT2,hm2⟩
     ·dsimp only;omega
   ·repeat' (first | refine aC ?_ | (refine aJ ?_ ?_ <;> intro hc hq <;> try (exfalso; omega))|fail)
    have hkl : k = pts[a]!.next.length := by omega
    rw [hkl,List.take_length] at hE2
    have hpre : E <+: E2 := by rw [hE2]; exact eJ _ _ _
    have hple := hpre.length_le
    rw [dI] at hlt
    (refine bC (h + 1,E2,T2,m2) (Le.renA [(0,0),(1,2)]) ?_ ?_)
    ·refine ⟨?_, hT2, hm2, by dsimp only; omega, fun hl => ?_⟩
     ·dsimp only;rw [hE2,gX,← hE,if_pos (by rw [dI]; exact hlt),← ha]
     ·dsimp only at hl ⊢
      have : E.length ≠ E2.length := fun e => by
       have := hpre.eq_of_length e
       rw [this] at hlk;omega
      omega
    ·dsimp only;omega
  ·have hT0 : T = [] := List.eq_nil_of_length_eq_zero (by omega)
   have hee : E = j3 pts f := by
    rw [hE]; exact uF w.nx hf (by rw [← hE]; rw [hT] at hT0;exact oH.1 hT0)
   have hm0 : m = 0 := by omega
   repeat' (first|refine aC ?_|(refine aJ ?_ ?_ <;> intro hc hq <;> try (exfalso;omega))|(refine b9 ?_ ?_ <;> intro hg hq <;> try (exfalso;omega))|fail)
   exfalso
   apply hwy
   unfold cO;rw [← hee,if_neg (by omega)]
  ·have hm1 := hmt (by omega)
   repeat' (first|refine aC ?_|(refine aJ ?_ ?_ <;> intro hc hq <;> try (exfalso;omega))|(refine b9 ?_ ?_ <;> intro hg hq <;> try (exfalso;omega))|fail)
   have hwt : pts.length ≤ 61 := hpl
   have hlk0 : 0 ≤ eX E t := by omega
   have hpre : E <+: j3 pts f := by rw [hE]; exact tV (h := h) (by omega)
   obtain ⟨_,a0,R0,hx0,hcs0⟩ := CS.start w.nx hf hpre hlk0
   have hen : eX (j3 pts f) t = eX E t := (pH (f := f) hpre (hbe _).nd (dU.1 hlk0)).2
   have hbt0 : (mY pts.length E)[t]! = (a0 : Int) := by rw [hbt,hx0]
   rw [hbt0]
   refine aH (σ := Nat × List (Nat × Nat) × List Int × Nat) [1,8] [0] (fun s => [(15,iv (s.1 : Int)),(14,.own 2 0 s.2.2.2 1)]) (fun s => [(2,some (flat cI s.2.2.1))]) (fun s => CS pts f t E s.1 s.2.1 s.2.2.1.reverse ∧ s.2.2.2 = s.2.2.1.length) (fun s => s.2.1.length) (a0,R0,[(t : Int)],1) ⟨hcs0,rfl⟩ ?_
   rintro ⟨x,R,u,m3⟩ ⟨hcs,hm3⟩
   dsimp only at hcs hm3
   try dsimp only
   have hcl := hcs.len
   rw [List.length_reverse] at hcl
   have hxl := hcs.xl
   have hbx : (mY pts.length E)[x]! = eX E x := dS hxl
   by_cases hxf : x = f
   ·have hcs2 := hcs
    rw [hxf] at hcs2
    have hfin := hcs2.fin
    repeat' (first|(apply aF;first|(apply aL (t := _);rfl;rfl;rfl;exact (rfl:_=some [_]);rfl;rfl)|(apply Fo;rfl;(rfl);(apply IN <;> (simp only [jY] <;> omega));rfl;rfl))|refine aC ?_|(refine aJ ?_ ?_ <;> intro hc hq <;> try (exfalso;omega))|fail)
    have e : (u ++ [(x : Int)]).reverse = dT (cO pts f t) := by
     rw [hfin,List.reverse_append,hxf]; simp
    have el : (dT (cO pts f t)).length = m3 + 1 := by rw [← e,hm3]; simp
    refine aI rfl ?_
    refine eI () trivial ?_ ⟨sE ?_,trivial⟩
    ·rw [el]; rfl
    ·rw [← e]
   ·obtain ⟨a, R', h1, h2, h3⟩ := hcs.step w.nx hf I hxf
    rw [h1] at hbx
    repeat' (first|(apply aF;(apply aL (t := _);rfl;rfl;rfl;exact (rfl:_=some [_]);rfl;rfl))|refine aC ?_|(refine aJ ?_ ?_ <;> intro hc hq <;> try (exfalso;omega))|fail)
    rw [hbx]
    (refine bC (a,R',_,_) (Le.renA [(0,0),(2,4)]) ?_ ?_)
    ·exact ⟨by dsimp only;rw [List.reverse_append]; exact h2,by dsimp only;rw [List.length_append,hm3]; rfl⟩
    ·dsimp only;omega
theorem Hn {ts:List Int}{bd:List AL.Stmt}{pts:List Pnt}{x0 x1:Operand}(ha0:ev (lk tsl) x0 = some (aG ts bd pts)) (ha1:ev (lk tsl) x1 = some (iv 0)) (hmc:MC Tryz.prog 69 [aG ts bd pts,iv 0] [] 0 (fun _:Unit => True) (fun _ => .tup [.own 0 0 (dT (l3 pts 0)).length 1,bv true]) (fun _ => [(0,some (flat cI (dT (l3 pts 0))))])) (hM:Nat.ble (nidl + 1) aT = true) (hN:Nat.blt d N = true){md':Md}[hmd:MdA md (jU [x0,x1] ++ []) (List.map Sum.inr (List.map Prod.fst ([(nidl,some (flat cI (dT (l3 pts 0))))]:List (Nat × Option (List AV)))) ++ [.inl d]) md'] (kk:RW Tryz.prog N all Q md' rest ⟨(d,.tup [.own nidl 0 (dT (l3 pts 0)).length 1,bv true]) :: tsl,nK hsl [(nidl,some (flat cI (dT (l3 pts 0))))],nidl + 1,z0⟩):RW Tryz.prog N all Q md (⟨some d,.call ⟨.value (.func 69),#[x0,x1],tys⟩,ty,pos,af,none⟩ :: rest) ⟨tsl,hsl,nidl,z0⟩:=by
 exact bY (l := [x0,x1]) [] 1 [(nidl,some (flat cI (dT (l3 pts 0))))] hmc (avs := [aG ts bd pts,iv 0]) (by simp only [evL,ha0,ha1]) rfl hM hN (md' := md') (hmd := hmd) kk
theorem G0 {ts:List Int}{bd:List AL.Stmt}{pts:List Pnt}{t:Nat}{x0 x1:Operand}(ha0:ev (lk tsl) x0 = some (aG ts bd pts)) (ha1:ev (lk tsl) x1 = some (iv (t:Int))) (hmc:MC Tryz.prog 69 [aG ts bd pts,iv (t:Int)] [] 0 (fun _:Unit => True) (fun _ => .tup [.own 4 0 (dT (l3 pts t)).length 1,bv true]) (fun _ => [(4,some (flat cI (dT (l3 pts t))))])) (hM:Nat.ble (nidl + 5) aT = true) (hN:Nat.blt d N = true){md':Md}[hmd:MdA md (jU [x0,x1] ++ []) (List.map Sum.inr (List.map Prod.fst ([((nidl + 4),some (flat cI (dT (l3 pts t))))]:List (Nat × Option (List AV)))) ++ [.inl d]) md'] (kk:RW Tryz.prog N all Q md' rest ⟨(d,.tup [.own (nidl + 4) 0 (dT (l3 pts t)).length 1,bv true]) :: tsl,nK hsl [((nidl + 4),some (flat cI (dT (l3 pts t))))],nidl + 5,z0⟩):RW Tryz.prog N all Q md (⟨some d,.call ⟨.value (.func 69),#[x0,x1],tys⟩,ty,pos,af,none⟩ :: rest) ⟨tsl,hsl,nidl,z0⟩:=by
 exact bY (l := [x0,x1]) [] 5 [((nidl + 4),some (flat cI (dT (l3 pts t))))] hmc (avs := [aG ts bd pts,iv (t : Int)]) (by simp only [evL,ha0,ha1]) rfl hM hN (md' := md') (hmd := hmd) kk
theorem JI (ts:List Int) (bd:List AL.Stmt) (pts:List Pnt):MC Tryz.prog 69 [aG ts bd pts,iv 0] [] 0 (fun _:Unit => True) (fun _ => .tup [.own 0 0 (dT (l3 pts 0)).length 1,bv true]) (fun _ => [(0,some (flat cI (dT (l3 pts 0))))]):=by
 refine cS Tryz.func69 Tryz.ntmps69 ?_
 repeat' (first|refine aC ?_|fail)
 ·refine aI rfl ?_
  refine eI () trivial ?_ ⟨sE ?_,trivial⟩
  ·rfl
  ·rfl
 all_goals exact absurd trivial (by assumption : ¬ True)
theorem JS (ts:List Int) (bd:List AL.Stmt) (pts:List Pnt) (t:Nat) (w:WG ts pts) (hr:Rch pts) (ht:t < pts.length) (hz:t ≠ 0):MC Tryz.prog 69 [aG ts bd pts,iv (t:Int)] [] 0 (fun _:Unit => True) (fun _ => .tup [.own 4 0 (dT (l3 pts t)).length 1,bv true]) (fun _ => [(4,some (flat cI (dT (l3 pts t))))]):=by
 have h0 := w.p0
 have e : l3 pts t = cO pts 0 t := if_neg hz
 have hne : cO pts 0 t ≠ [] := (fY w.nx h0).2 (hr.wy t t (Nat.le_refl _) (by omega) ht)
 have hsw := KR ts bd pts 0 t w h0 ht hne
 rw [← e] at hsw
 refine cS Tryz.func69 Tryz.ntmps69 ?_
 repeat' (first|(apply aF;(apply Jx (f := 0);rfl;rfl;rfl;(rw [← e]; exact hsw);rfl;rfl))|refine aC ?_|(refine aJ ?_ ?_ <;> intro hc hq <;> try (exfalso;omega))|fail)
 rw [← e]
 refine aI rfl ?_
 refine eI () trivial ?_ ⟨sE ?_,trivial⟩
 ·rfl
 ·rfl
def IL (way : List Int) (ok : Bool) (r : AV) (E : dO) : Prop := ∃ a c B,r = .tup [.v (.slice a way.length c),bv ok] ∧ E = [(.ints way,.slice a way.length c,B)]
theorem pF {P:Program}{res:Array ResultVar}{s:AS}{E:dO}{l:List AV}(hr:jG P (lk s.ts) (aO s.hs) res.toList = some l) (e:aN l = .tup [.v (.slice none 0 0),bv false]):AY P res (IL [] false) .ret s E :=
 HJ hr e rfl ⟨none,0,[],rfl,rfl⟩
theorem HH (p:Prg) (x:Iss) (hv:bR p = false) (hl:p.types.length ≤ 1048576) (hs:aM p.body ≤ 1048576):rT Tryz.prog 23 [cA p,fU x] (IL ([]) false):=by
 have hg := cR p hl hs
 rw [if_neg (by simp [hv])] at hg
 (refine b0 Tryz.func23 rfl (by simp [Tryz.ntmps23]) ?_; rw [Tryz.ntmps23])
 refine awt_lift ?_
 repeat' (first|(apply aF;(apply aA (k := 66);rfl;exact hg;exact Pur.pf;rfl))|refine aC ?_|refine cC ?_|fail)
 exact pF rfl rfl
theorem IA (p:Prg) (f:Flows p.types (aB p)) (x:Iss) (hv:bR p = true) (hx:x ∉ f.iss) (hl:p.types.length ≤ 1048576) (hs:aM p.body ≤ 1048576):rT Tryz.prog 23 [cA p,fU x] (IL ([]) false):=by
 have w := WG.of_valid hv
 have hg := cR p hl hs
 rw [if_pos hv] at hg
 have hi := dN p.types p.body (aB p) w f
 have hc := fP f.iss x (Nat.le_trans (dV w f) (by decide))
 rw [decide_eq_false hx] at hc
 (refine b0 Tryz.func23 rfl (by simp [Tryz.ntmps23]) ?_; rw [Tryz.ntmps23])
 refine awt_lift ?_
 repeat' (first|(apply aF;first|(apply aA (k := 66);rfl;exact hg;exact Pur.pf;rfl)|(apply aA (k := 68);rfl;exact hi;exact Pur.pf;rfl)|(apply aA (k := 67);rfl;exact hc;exact Pur.pf;rfl))|refine aC ?_|refine cC ?_|fail)
 exact pF rfl rfl
theorem HC (p:Prg) (f:Flows p.types (aB p)) (a:Nat) (k wi:Int) (hk:k = 1) (ha:a < (aB p).length) (hv:bR p = true) (hx:(⟨(a:Int),k,wi⟩:Iss) ∈ f.iss) (hl:p.types.length ≤ 1048576) (hs:aM p.body ≤ 1048576) :
  rT Tryz.prog 23 [cA p,fU ⟨(a : Int),k,wi⟩] (IL (dT (l3 (aB p) a)) true) := by
 have w := WG.of_valid hv
 have hg := cR p hl hs
 rw [if_pos hv] at hg
 have hi := dN p.types p.body (aB p) w f
 have hc := fP f.iss ⟨(a : Int),k,wi⟩ (Nat.le_trans (dV w f) (by decide))
 rw [decide_eq_true hx] at hc
 subst hk
 by_cases hz : a = 0
 ·subst hz
  (refine b0 Tryz.func23 rfl (by simp [Tryz.ntmps23]) ?_; rw [Tryz.ntmps23])
  refine awt_lift ?_
  repeat' (first|(apply aF;first|(apply aA (k := 66);rfl;exact hg;exact Pur.pf;rfl)|(apply aA (k := 68);rfl;exact hi;exact Pur.pf;rfl)|(apply aA (k := 67);rfl;exact hc;exact Pur.pf;rfl)|(apply Hn;rfl;rfl;exact JI _ _ _;rfl;rfl))|refine aC ?_|refine cC ?_|fail)
  all_goals exact rP rfl rfl rfl rfl rfl (fun a c B => ⟨a,c,B,rfl,rfl⟩)
 ·have hb := JS p.types p.body (aB p) a w (Rch.of p) ha hz
  (refine b0 Tryz.func23 rfl (by simp [Tryz.ntmps23]) ?_; rw [Tryz.ntmps23])
  refine awt_lift ?_
  repeat' (first|(apply aF;first|(apply aA (k := 66);rfl;exact hg;exact Pur.pf;rfl)|(apply aA (k := 68);rfl;exact hi;exact Pur.pf;rfl)|(apply aA (k := 67);rfl;exact hc;exact Pur.pf;rfl)|(apply G0 (t := a);rfl;rfl;exact hb;rfl;rfl))|refine aC ?_|refine cC ?_|fail)
  all_goals exact rP rfl rfl rfl rfl rfl (fun a c B => ⟨a,c,B,rfl,rfl⟩)
theorem Ih (p:Prg) (f:Flows p.types (aB p)) (a l:Nat) (k:Int) (hk:k ≠ 1) (ha:a < (aB p).length) (hll:l < (aB p).length) (hv:bR p = true) (hx:(⟨(a:Int),k,(l:Int)⟩:Iss) ∈ f.iss) (hl:p.types.length ≤ 1048576) (hs:aM p.body ≤ 1048576) (u:Nat)
  (hu : (gR (cO (aB p) a) (cZ p.types (aB p) f.Af l) (aB p).length).1 = (u : Int)) (hun : u < (aB p).length) (h2 : cO (aB p) l a ≠ []) (h3 : cO (aB p) a u ≠ []) :
  rT Tryz.prog 23 [cA p,fU ⟨(a : Int),k,(l : Int)⟩] (IL (dT (l3 (aB p) l) ++ (dT (cO (aB p) l a)).drop 1 ++ (dT (cO (aB p) a u)).drop 1) true) := by
 have w := WG.of_valid hv
 have hg := cR p hl hs
 rw [if_pos hv] at hg
 have hi := dN p.types p.body (aB p) w f
 have hc := fP f.iss ⟨(a : Int),k,(l : Int)⟩ (Nat.le_trans (dV w f) (by decide))
 rw [decide_eq_true hx] at hc
 have hua := fJ p.types p.body (aB p) f w a l ha hll
 rw [hu,decide_eq_true (by omega)] at hua
 have hb := m9 p.types p.body (aB p) l w (Rch.of p) hll
 have hs1 := cY p.types p.body (aB p) l a w hll ha
 rw [decide_eq_true ((eM w.nx hll a).2 ((fY w.nx hll).1 h2))] at hs1
 have hs2 := cY p.types p.body (aB p) a u w ha hun
 rw [decide_eq_true ((eM w.nx ha u).2 ((fY w.nx ha).1 h3))] at hs2
 have hl1 := eP (x := a) w.nx hll
 have hl2 := eP (x := u) w.nx ha
 have hl0 := nF w.nx w.p0 l
 have hpl := w.pl
 rw [← bT] at hl0 hl1 hl2
 have hp1 : 0 < (dT (cO (aB p) l a)).length := by rw [bT]; exact List.length_pos_iff.2 h2
 have hp2 : 0 < (dT (cO (aB p) a u)).length := by rw [bT]; exact List.length_pos_iff.2 h3
 generalize dT (l3 (aB p) l) = A at *
 generalize dT (cO (aB p) l a) = B at *
 generalize dT (cO (aB p) a u) = D at *
 have hco := Jl [A,List.take (B.length - Int.toNat 1) (List.drop (Int.toNat 1) B),List.take (D.length - Int.toNat 1) (List.drop (Int.toNat 1) D)] (by simp) (by simp;omega)
 (refine b0 Tryz.func23 rfl (by simp [Tryz.ntmps23]) ?_; rw [Tryz.ntmps23])
 refine awt_lift ?_
 repeat' (first|(apply aF;first|(apply j5 (t := 146);rfl;rfl;rfl;exact (rfl:_=some [_,_,_]);rfl;rfl)|(apply aA (k := 66);rfl;exact hg;exact Pur.pf;rfl)|(apply aA (k := 68);rfl;exact hi;exact Pur.pf;rfl)|(apply aA (k := 67);rfl;exact hc;exact Pur.pf;rfl)|(apply aA (k := 70);rfl;exact hua;exact Pur.pf;rfl)|(apply aA (k := 69);rfl;exact hb;exact Pur.pf;rfl)|(apply aA (k := 71);rfl;exact hs1;exact Pur.pf;rfl)|(apply aA (k := 71);rfl;exact hs2;exact Pur.pf;rfl)|(apply H3 (Ls := [A,List.take (B.length - Int.toNat 1) (List.drop (Int.toNat 1) B),List.take (D.length - Int.toNat 1) (List.drop (Int.toNat 1) D)]);(case ha0 => rfl);(case hmc => exact hco);(case hM|hN => rfl)))|refine aC ?_|(refine aJ ?_ ?_ <;> intro hc hq <;> try (exfalso;omega))|refine cC ?_|fail)
 have eB : List.take (B.length - Int.toNat 1) (List.drop (Int.toNat 1) B) = B.drop 1 := by
  show List.take (B.length - 1) (List.drop 1 B) = _
  exact List.take_of_length_le (by rw [List.length_drop]; omega)
 have eD : List.take (D.length - Int.toNat 1) (List.drop (Int.toNat 1) D) = D.drop 1 := by
  show List.take (D.length - 1) (List.drop 1 D) = _
  exact List.take_of_length_le (by rw [List.length_drop]; omega)
 have eL : [A, List.take (B.length - Int.toNat 1) (List.drop (Int.toNat 1) B), List.take (D.length - Int.toNat 1) (List.drop (Int.toNat 1) D)].flatten = A ++ B.drop 1 ++ D.drop 1 := by
  rw [eB,eD]; simp
 refine rP (L := [A,List.take (B.length - Int.toNat 1) (List.drop (Int.toNat 1) B),List.take (D.length - Int.toNat 1) (List.drop (Int.toNat 1) D)].flatten) rfl rfl rfl rfl rfl (fun a c B' => ?_)
 rw [eL]
 exact ⟨a,c,B',rfl,rfl⟩
theorem GU (p:Prg) (f:Flows p.types (aB p)) (a l:Nat) (k:Int) (hk:k ≠ 1) (ha:a < (aB p).length) (hll:l < (aB p).length) (hv:bR p = true) (hx:(⟨(a:Int),k,(l:Int)⟩:Iss) ∈ f.iss) (hl:p.types.length ≤ 1048576) (hs:aM p.body ≤ 1048576)
  (hu : (gR (cO (aB p) a) (cZ p.types (aB p) f.Af l) (aB p).length).1 < 0) :
  rT Tryz.prog 23 [cA p,fU ⟨(a : Int),k,(l : Int)⟩] (IL ([]) false) := by
 have w := WG.of_valid hv
 have hg := cR p hl hs
 rw [if_pos hv] at hg
 have hi := dN p.types p.body (aB p) w f
 have hc := fP f.iss ⟨(a : Int),k,(l : Int)⟩ (Nat.le_trans (dV w f) (by decide))
 rw [decide_eq_true hx] at hc
 have hua := fJ p.types p.body (aB p) f w a l ha hll
 rw [decide_eq_false (by omega : ¬ 0 ≤ (gR (cO (aB p) a) (cZ p.types (aB p) f.Af l) (aB p).length).1)] at hua
 (refine b0 Tryz.func23 rfl (by simp [Tryz.ntmps23]) ?_; rw [Tryz.ntmps23])
 refine awt_lift ?_
 repeat' (first|(apply aF;first|(apply aA (k := 66);rfl;exact hg;exact Pur.pf;rfl)|(apply aA (k := 68);rfl;exact hi;exact Pur.pf;rfl)|(apply aA (k := 67);rfl;exact hc;exact Pur.pf;rfl)|(apply aA (k := 70);rfl;exact hua;exact Pur.pf;rfl))|refine aC ?_|(refine aJ ?_ ?_ <;> intro hc hq <;> try (exfalso;omega))|refine cC ?_|fail)
 exact pF rfl rfl
theorem G6 (p:Prg) (f:Flows p.types (aB p)) (a l:Nat) (k:Int) (hk:k ≠ 1) (ha:a < (aB p).length) (hll:l < (aB p).length) (hv:bR p = true) (hx:(⟨(a:Int),k,(l:Int)⟩:Iss) ∈ f.iss) (hl:p.types.length ≤ 1048576) (hs:aM p.body ≤ 1048576) (u:Nat)
  (hu : (gR (cO (aB p) a) (cZ p.types (aB p) f.Af l) (aB p).length).1 = (u : Int)) (hun : u < (aB p).length) (h2 : ¬ Wy (aB p) l a) :
  rT Tryz.prog 23 [cA p,fU ⟨(a : Int),k,(l : Int)⟩] (IL ([]) false) := by
 have w := WG.of_valid hv
 have hg := cR p hl hs
 rw [if_pos hv] at hg
 have hi := dN p.types p.body (aB p) w f
 have hc := fP f.iss ⟨(a : Int),k,(l : Int)⟩ (Nat.le_trans (dV w f) (by decide))
 rw [decide_eq_true hx] at hc
 have hua := fJ p.types p.body (aB p) f w a l ha hll
 rw [hu,decide_eq_true (by omega)] at hua
 have hb := m9 p.types p.body (aB p) l w (Rch.of p) hll
 have hs1 := cY p.types p.body (aB p) l a w hll ha
 rw [decide_eq_false (fun h => h2 ((eM w.nx hll a).1 h))] at hs1
 have hs2 := cY p.types p.body (aB p) a u w ha hun
 (refine b0 Tryz.func23 rfl (by simp [Tryz.ntmps23]) ?_; rw [Tryz.ntmps23])
 refine awt_lift ?_
 repeat' (first|(apply aF;first|(apply aA (k := 66);rfl;exact hg;exact Pur.pf;rfl)|(apply aA (k := 68);rfl;exact hi;exact Pur.pf;rfl)|(apply aA (k := 67);rfl;exact hc;exact Pur.pf;rfl)|(apply aA (k := 70);rfl;exact hua;exact Pur.pf;rfl)|(apply aA (k := 69);rfl;exact hb;exact Pur.pf;rfl)|(apply aA (k := 71);rfl;exact hs1;exact Pur.pf;rfl)|(apply aA (k := 71);rfl;exact hs2;exact Pur.pf;rfl))|refine aC ?_|(refine aJ ?_ ?_ <;> intro hc hq <;> try (exfalso;omega))|refine cC ?_|fail)
 exact pF rfl rfl
theorem Ks (p:Prg) (x:Iss) (hl:p.types.length ≤ 1048576) (hs:aM p.body ≤ 1048576):∃ (way:List Int) (ok:Bool),
  rT Tryz.prog 23 [cA p,fU x] (IL way ok) ∧ PC Tryz.prog 23 [cA p,fU x] (fun r => r = .tup [sl cI way,bv ok]) ∧ PC Tryz.prog 21 [cA p,fU x] (fun r => r = .tup [sl cI way,bv ok]) ∧ way.length ≤ 1000 := by
 cases hv : bR p
 ·exact ⟨[],false,HH p x hv hl hs,Hv p x hv hl hs,Be p [] x (C0 p hv hl hs) (by simp) (by simp),by simp⟩
 ·have w := WG.of_valid hv
  obtain ⟨f⟩ := Flows.ex w
  have e : JB p f = f.iss := if_pos hv
  have hC := Ga p f hl hs
  rw [e] at hC
  have hLl : f.iss.length ≤ 1048576 := Nat.le_trans (dV w f) (by decide)
  by_cases hx : x ∈ f.iss
  ·obtain ⟨j, hj, hje⟩ := List.getElem_of_mem hx
   have hok := (Ju w f).1 j hj
   rw [aW _ _ hj,hje] at hok
   obtain ⟨pt,k,wi⟩ := x
   obtain ⟨a,rfl⟩ := Int.eq_ofNat_of_zero_le hok.p0
   have ha : a < (aB p).length := by have := hok.p1;dsimp only at this;omega
   have hpl := w.pl
   by_cases hk : k = 1
   ·exact ⟨_,true,HC p f a k wi hk ha hv hx hl hs,HV p f a k wi hk ha hv hx hl hs,Hr p f.iss a k wi hC hLl hk ha hv hx hs,by have := nF w.nx w.p0 a;rw [bT]; omega⟩
   ·have hwi : 0 ≤ wi ∧ wi < (aB p).length := by
     rcases hok.k with h|h
     ·exact absurd h.1 hk
     ·exact h.2
    obtain ⟨l,rfl⟩ := Int.eq_ofNat_of_zero_le hwi.1
    have hll : l < (aB p).length := by omega
    rcases m7 (cO (aB p) a) (cZ p.types (aB p) f.Af l) (aB p).length with ⟨hu,_⟩ | ⟨u,hun,hu,_,_,h3⟩
    ·exact ⟨[],false,GU p f a l k hk ha hll hv hx hl hs (by omega),Hi p f a l k hk ha hll hv hx hl hs (by omega),HZ p f f.iss a l k hC hLl hk ha hll hv hx hl hs (by omega),by simp⟩
    ·by_cases h2 : Wy (aB p) l a
     ·have h2' := (fY w.nx hll).2 h2
      refine ⟨_,true,Ih p f a l k hk ha hll hv hx hl hs u hu hun h2' h3,G4 p f a l k hk ha hll hv hx hl hs u hu hun h2' h3,H5 p f f.iss a l k hC hLl hk ha hll hv hx hl hs u hu hun h2' h3,?_⟩
      have h4 := nF w.nx w.p0 l
      have h5 := eP (x := a) w.nx hll
      have h6 := eP (x := u) w.nx ha
      rw [← bT] at h4 h5 h6
      simp only [List.length_append,List.length_drop]; omega
     ·exact ⟨[],false,G6 p f a l k hk ha hll hv hx hl hs u hu hun h2,HA p f a l k hk ha hll hv hx hl hs u hu hun h2,Ig p f f.iss a l k hC hLl hk ha hll hv hx hl hs u hu h2,by simp⟩
  ·exact ⟨[],false,IA p f x hv hx hl hs,GH p f x hv hx hl hs,Be p f.iss x hC hLl hx,by simp⟩
end Go.Proofs.YtgkalkgplcdnkaaGreat
