/-
 A part of the proofs over this program: rules and contracts of its functions (the contracts).
-/
import Derived.Test.YtgkalkgplcdnkaaGreatW2B03
import Derived.Test.YtgkalkgplcdnkaaGreatRows
import Derived.WalkKit
import Derived.ProofKit
import Derived.OpenShut
import Derived.Carry
import Derived.ChangeSlices
set_option linter.unusedVariables false
set_option linter.unusedSimpArgs false
set_option maxHeartbeats 8000000
set_option maxRecDepth 4000
attribute [local irreducible] Go.AL.RW Go.AL.AW Go.AL.Stop
namespace Go.Proofs.YtgkalkgplcdnkaaGreat
open Go.AL Go.RowKit
def iD (n l : Nat) : List Int := (List.range l).map fun i => ((n / 2 ^ i % 2 : Nat) : Int)
theorem nC (n l:Nat):(iD n l).length = l := by unfold iD;rw [List.length_map,List.length_range]
theorem vS (n l:Nat):iD n (l + 1) = iD n l ++ [((n / 2 ^ l % 2:Nat):Int)]:=by
 unfold iD;rw [List.range_succ,List.map_append]; rfl
def fN (p : Prg) (l n : Nat) : Bool := decide (AU p (iD n l) 80 ≠ 0) && decide (AU p (iD n l) 80 ≠ 1)
theorem uW (n l:Nat) (hl:l ≤ 100) (hn:n ≤ 1048576):PC Tryz.prog 30 [iv (n:Int),iv (l:Int)] (fun r => r = sl cI (iD n l)):=by
 refine aD Tryz.func30 Tryz.ntmps30 ?_
 repeat' (first|refine aE ?_|fail)
 refine aK (σ := Nat × Nat × List Int × Nat) [1] [] (fun k => [(6,iv (k.1 : Int)),(0,iv (k.2.1 : Int)),(5,.own 0 0 k.2.2.2 1)]) (fun k => [(0,some (aA cI k.2.2.1))]) (fun k => k.1 ≤ l ∧ k.2.1 = n / 2 ^ k.1 ∧ k.2.2.1 = iD n k.1 ∧ k.2.2.2 = k.1) (fun k => l - k.1) (0,n,[],0) ⟨Nat.zero_le _,by simp,rfl,rfl⟩ ?_
 rintro ⟨i,n',xs,m⟩ ⟨hi,hn',hxs,hm⟩
 dsimp only at hi hn' hxs hm ⊢
 have hnl : n' ≤ 1048576 := by rw [hn']; exact Nat.le_trans (Nat.div_le_self _ _) hn
 have hxl : xs.length = m := by rw [hxs,nC,hm]
 repeat' (first|(apply aF;(apply aM (t := _);rfl;rfl;rfl;exact (rfl:_=some [_]);rfl;rfl))|refine aE ?_|(refine aL ?_ ?_ <;> intro hc hq <;> try (exfalso;omega))|fail)
 ·(refine c9 (i + 1, n' / 2, _, m + 1) (Le.renA [(0, 2)]) ?_ ?_)
  ·refine ⟨by dsimp only; omega, ?_, ?_, by dsimp only; omega⟩
   ·dsimp only;rw [hn',Nat.pow_succ,Nat.div_div_eq_div_mul]
   ·dsimp only;rw [vS,← hxs,← hn']; rfl
  ·dsimp only;omega
 ·(refine bD (Le.frzD (d := 4) (i := 0) rfl rfl) ?_; refine aC rfl ?_)
  refine ⟨?_,(by (exact cR _ _))⟩
  have hie : i = l := by omega
  simp only [aN,sl]
  rw [← hxl,hxs,hie]
theorem DL (l:Nat) (hl:l ≤ 10):PC Tryz.prog 28 [iv (l:Int)] (fun r => r = iv ((2 ^ l:Nat):Int)):=by
 refine aD Tryz.func28 Tryz.ntmps28 ?_
 repeat' (first|refine aE ?_|fail)
 refine aK (σ := Nat) [0] [] (fun k => [(4,iv (k : Int)),(3,iv ((2 ^ k : Nat) : Int))]) (fun k => []) (fun k => k ≤ l) (fun k => l - k) (0) (Nat.zero_le _) ?_
 rintro k hk
 have hp : 2 ^ k ≤ 2 ^ 10 := Nat.pow_le_pow_right (by decide) (by omega)
 repeat' (first|refine aE ?_|(refine aL ?_ ?_ <;> intro hc hq <;> try (exfalso;omega))|fail)
 ·have hw : IntKind.i64.wrap (((2 ^ k : Nat) : Int) * 2) = ((2 ^ (k + 1) : Nat) : Int) := by
   rw [show (((2 ^ k : Nat) : Int) * 2) = ((2 ^ (k + 1) : Nat) : Int) by rw [Nat.pow_succ,Int.natCast_mul]; rfl]
   exact nA (Sm.pow (by omega)).pf
  rw [hw]
  (refine c9 (k + 1) (Le.renA []) ?_ ?_)
  ·omega
  ·omega
 ·refine aC rfl ⟨?_, rfl⟩
  rw [show l = k by omega]; rfl
def wX (p : Prg) (l : Int) : Bool := cL p && (decide (0 ≤ l) && decide (l ≤ 6))
theorem nE {p:Prg}{l:Int}:wX p l = true ↔ cL p = true ∧ 0 ≤ l ∧ l ≤ 6 := by unfold wX;simp only [Bool.and_eq_true,decide_eq_true_eq]
theorem AE (p:Prg) (l:Int) (hl:p.types.length ≤ 1048576) (hs:aJ p.body ≤ 1048576):PC Tryz.prog 26 [cJ p,iv l] (fun r => r = bv (wX p l)):=by
 have hval := pM p hl (by omega)
 refine aD Tryz.func26 Tryz.ntmps26 ?_
 repeat' (first|(apply aF;(apply aB (k := 40);rfl;exact hval;exact Pur.pf;rfl))|refine aE ?_|(refine cS ?_ ?_ <;> intro hg hq <;> try (exfalso;omega))|fail)
 all_goals (refine aC rfl ⟨?_,rfl⟩; simp only [aN,AV.v.injEq,Value.bool.injEq]; unfold wX;grind)
theorem Di:PC Tryz.prog 76 [] (fun r => r = iv 80):=by
 refine aD Tryz.func76 Tryz.ntmps76 ?_
 repeat' (first|refine aE ?_|fail)
 exact aC rfl ⟨rfl,rfl⟩
theorem BG (p:Prg) (cs:List Int) (hl:p.types.length ≤ 1048576) (hs:aJ p.body ≤ 1048576) (hcl:cs.length ≤ 1048576):PC Tryz.prog 29 [cJ p,sl cI cs] (fun r => r = .tup [bv (decide (AU p cs 80 ≠ 0) && decide (AU p cs 80 ≠ 1)),iv (k6 p cs 80)]):=by
 have h := Ht p cs 80 hl hs hcl
 have hm := Di
 generalize AU p cs 80 = e at *
 generalize k6 p cs 80 = a at *
 refine aD Tryz.func29 Tryz.ntmps29 ?_
 repeat' (first|(apply aF;first|(apply aB (k := 75);rfl;exact h;exact Pur.pf;rfl)|(apply aB (k := 76);rfl;exact hm;(rfl);rfl))|refine aE ?_|(refine cS ?_ ?_ <;> intro hg hq <;> try (exfalso;omega))|refine cC ?_|fail)
 ·refine aC (l := [bv _, iv a]) ?_ ⟨rfl, rfl⟩
  have hd : (decide (e ≠ 0) && decide (e ≠ 1)) = !decide (e = 1) := by simp_all
  rw [hd]; rfl
 ·refine aC (l := [bv _, iv a]) ?_ ⟨rfl, rfl⟩
  have hd : (decide (e ≠ 0) && decide (e ≠ 1)) = false := by simp_all
  rw [hd]; rfl
theorem pF (l:Int):PC Tryz.prog 78 [iv l] (fun r => r = bv (decide (0 ≤ l) && decide (l ≤ 6))):=by
 have hw := cH l 0 6
 refine aD Tryz.func78 Tryz.ntmps78 ?_
 repeat' (first|(apply aF;(apply aB (k := 55);rfl;exact hw;(rfl);rfl))|refine aE ?_|fail)
 exact aC rfl ⟨rfl,rfl⟩
theorem vK (n l:Nat) (hl:l ≤ 60) (hn:n ≤ 1048576):PC Tryz.prog 80 [iv (n:Int),iv (l:Int)] (fun r => r = sl cI (iD n l)):=by
 have : Sm n := ⟨by omega⟩
 refine aD Tryz.func80 Tryz.ntmps80 ?_
 repeat' (first|refine aE ?_|fail)
 refine AW.le ?_ (Le.nilOwn (d := 5) 1 rfl (by decide))
 refine aK (σ := Nat × List Int × Nat) [0,7] [] (fun k => [(8,iv (k.1 : Int)),(5,.own 0 0 k.2.2 1)]) (fun k => [(0,some (aA cI k.2.1))]) (fun k => k.1 ≤ l ∧ k.2.1 = iD n k.1 ∧ k.2.2 = k.1) (fun k => l - k.1) (0,[],0) ⟨Nat.zero_le _,rfl,rfl⟩ ?_
 rintro ⟨i,xs,m⟩ ⟨hi,hxs,hm⟩
 dsimp only at hi hxs hm ⊢
 have hxl : xs.length = m := by rw [hxs,nC,hm]
 repeat' (first|(apply aF;(apply aM (t := _);rfl;rfl;rfl;exact (rfl:_=some [_]);rfl;rfl))|refine aE ?_|(refine aL ?_ ?_ <;> intro hc hq <;> try (exfalso;omega))|fail)
 ·(refine c9 (i + 1, _, m + 1) (Le.renA [(0, 2)]) ?_ ?_)
  ·refine ⟨by dsimp only; omega, ?_, by dsimp only; omega⟩
   have hz : n >>> (i : Int).toNat &&& 1 = n / 2 ^ i % 2 := by rw [Int.toNat_natCast,Nat.shiftRight_eq_div_pow]; exact Nat.and_one_is_mod _
   dsimp only;rw [vS,← hxs,← hz]
  ·dsimp only;omega
 ·refine bD (Le.frzD (d := 4) (i := 0) rfl rfl) ?_
  refine aC rfl ⟨?_,(by (exact cR _ _))⟩
  have hie : i = l := by omega
  simp only [aN,sl]
  rw [← hxl,hxs,hie]
end Go.Proofs.YtgkalkgplcdnkaaGreat
namespace Go.Proofs.YtgkalkgplcdnkaaGreat
open Go.AL Go.ChangeShapes Go.WideShapes Go.ChangeAt Go.RowKit
theorem IJ:laidOutB Tryz.prog = true := by kernel_rfl
end Go.Proofs.YtgkalkgplcdnkaaGreat
namespace Go.Proofs.YtgkalkgplcdnkaaGreat
open Go.AL Go.RowKit
theorem kL {c left:Int}(h:c ≤ left):Cb c left = left - c := if_pos h
theorem iA {c left:Int}(h:¬ c ≤ left):Cb c left = -1 := if_neg h
theorem Ct (l:List Int) (left:Int) (h0:0 ≤ left) (h1:left ≤ 1048576) (hl:l.length ≤ 9223372036854775807):PC Tryz.prog 24 [sl cI l,iv left] (fun r => r = iv (Cb l.length left)):=by
 refine aD Tryz.func24 Tryz.ntmps24 ?_
 repeat' (first|refine aE ?_|(refine aL ?_ ?_ <;> intro hc hq <;> try (exfalso;omega))|fail)
 all_goals (refine aC rfl ⟨?_,rfl⟩; simp only [aN]; first|rw [kL (by omega)]|rw [iA (by omega)])
theorem Bu (m:Nat) (ih:∀ l (left:Int),aJ l < m → D6 l → 0 ≤ left → left ≤ 1048576 → PC Tryz.prog 25 [sl aP l,iv left] (fun r => r = iv (Cb (aJ l) left))) (s:AL.Stmt) (left:Int) (hs:cM s ≤ m) (hln:Bh s) (h0:0 ≤ left) (h1:left ≤ 1048576) :
  PC Tryz.prog 73 [bY s,iv left] (fun r => r = iv (Cb (aJ s.th + aJ s.el : Nat) left)) := by
 have hct := gE s
 obtain ⟨l1,l2⟩ := HI hln
 have c1 := ih s.th left (by omega) l1 h0 h1
 by_cases q1 : (aJ s.th : Int) ≤ left
 ·rw [kL q1] at c1
  have c2 := ih s.el (left - aJ s.th) (by omega) l2 (by omega) (by omega)
  by_cases q2 : (aJ s.el : Int) ≤ left - aJ s.th
  ·rw [kL q2] at c2
   rw [kL (by omega)]
   refine aD Tryz.func73 Tryz.ntmps73 ?_
   repeat' (first|(apply aF;(apply aB (k := 25);rfl;(first|exact c1|exact c2);exact Pur.pf;rfl))|refine aE ?_|(refine aL ?_ ?_ <;> intro hc hq <;> try (exfalso;omega))|fail)
   all_goals first
    | (exfalso;omega)
    | (refine aC rfl ⟨?_,rfl⟩; simp only [aN]; refine congrArg (fun z => AV.v (Value.int .i64 z)) ?_; omega)
  ·rw [iA q2] at c2
   rw [iA (by omega)]
   refine aD Tryz.func73 Tryz.ntmps73 ?_
   repeat' (first|(apply aF;(apply aB (k := 25);rfl;(first|exact c1|exact c2);exact Pur.pf;rfl))|refine aE ?_|(refine aL ?_ ?_ <;> intro hc hq <;> try (exfalso;omega))|fail)
   all_goals first
    | (exfalso;omega)
    | (refine aC rfl ⟨?_,rfl⟩; rfl)
 ·rw [iA q1] at c1
  rw [iA (by omega)]
  refine aD Tryz.func73 Tryz.ntmps73 ?_
  repeat' (first|(apply aF;(apply aB (k := 25);rfl;exact c1;exact Pur.pf;rfl))|refine aE ?_|fail)
  all_goals first
   | (exfalso;omega)
   | (refine aC rfl ⟨?_,rfl⟩; rfl)
theorem yH (m:Nat) (ih:∀ s (left:Int),cM s ≤ m → Bh s → 0 ≤ left → left ≤ 1048576 → PC Tryz.prog 73 [bY s,iv left] (fun r => r = iv (Cb (aJ s.th + aJ s.el:Nat) left))) (l:List AL.Stmt) (left:Int) (hs:aJ l ≤ m) (hln:D6 l) (h0:0 ≤ left) (h1:left ≤ 1048576) :
  PC Tryz.prog 25 [sl aP l,iv left] (fun r => r = iv (Cb (aJ l) left)) := by
 have hX := CV l
 have hl := hln.1
 by_cases q0 : (l.length : Int) ≤ left
 ·refine aD Tryz.func25 Tryz.ntmps25 ?_
  repeat' (first|refine aE ?_|(refine aL ?_ ?_ <;> intro hc hq <;> try (exfalso;omega))|fail)
  refine aK (σ := Nat × Int) [0] [] (fun k => [(5,iv (k.1 : Int)),(1,iv k.2)]) (fun k => []) (fun k => k.1 ≤ l.length ∧ 0 ≤ k.2 ∧ k.2 + l.length + kD (l.take k.1) = left) (fun k => l.length - k.1) (0,left - l.length) ⟨by omega,by dsimp only;omega,by simp [kD]⟩ ?_
  rintro ⟨k,z⟩ ⟨hk,hz0,hz⟩
  dsimp only at hk hz0 hz ⊢
  by_cases hkl : k < l.length
  ·have hck := eQ l k hkl
   have hsx := AK hkl
   have hle := Em l (k + 1)
   have c1 := ih l[k]! z (by omega) (Gt hln hkl) hz0 (by omega)
   by_cases q1 : ((aJ l[k]!.th + aJ l[k]!.el : Nat) : Int) ≤ z
   ·rw [kL q1] at c1
    repeat' (first|(apply aF;(apply aB (k := 73);rfl;exact c1;exact Pur.pf;rfl))|refine aE ?_|(refine aL ?_ ?_ <;> intro hc hq <;> try (exfalso;omega))|fail)
    all_goals first
     | (exfalso;omega)
     | ((refine c9 (k + 1, z - (aJ l[k]!.th + aJ l[k]!.el : Nat)) (Le.renA []) ?_ ?_)
        ·exact ⟨by dsimp only;omega,by dsimp only;omega,by dsimp only;rw [hsx]; omega⟩
        ·dsimp only;omega)
   ·rw [iA q1] at c1
    repeat' (first|(apply aF;(apply aB (k := 73);rfl;exact c1;exact Pur.pf;rfl))|refine aE ?_|(refine aL ?_ ?_ <;> intro hc hq <;> try (exfalso;omega))|fail)
    all_goals first
     | (exfalso;omega)
     | (refine aC rfl ⟨?_,rfl⟩; simp only [aN]; rw [iA (by omega)])
  ·have hke : k = l.length := by omega
   subst hke
   rw [List.take_length] at hz
   repeat' (first|refine aE ?_|(refine aL ?_ ?_ <;> intro hc hq <;> try (exfalso;omega))|fail)
   refine aC rfl ⟨?_,rfl⟩; simp only [aN]; rw [kL (by omega)]
   refine congrArg (fun z => AV.v (Value.int .i64 z)) ?_; omega
 ·refine aD Tryz.func25 Tryz.ntmps25 ?_
  repeat' (first|refine aE ?_|(refine aL ?_ ?_ <;> intro hc hq <;> try (exfalso;omega))|fail)
  all_goals first
   | (exfalso;omega)
   | (refine aC rfl ⟨?_,rfl⟩; simp only [aN]; rw [iA (by omega)])
theorem F2:∀ (m:Nat),(∀ s (left:Int),cM s ≤ m → Bh s → 0 ≤ left → left ≤ 1048576 → PC Tryz.prog 73 [bY s,iv left] (fun r => r = iv (Cb (aJ s.th + aJ s.el:Nat) left))) ∧
  (∀ l (left : Int),aJ l ≤ m → D6 l → 0 ≤ left → left ≤ 1048576 → PC Tryz.prog 25 [sl aP l,iv left] (fun r => r = iv (Cb (aJ l) left))) := by
 intro m
 induction m using Nat.strongRecOn with
 | ind m ih =>
  have h1 : ∀ s (left : Int), cM s ≤ m → Bh s → 0 ≤ left → left ≤ 1048576 → PC Tryz.prog 73 [bY s, iv left] (fun r => r = iv (Cb (aJ s.th + aJ s.el : Nat) left)) :=
   fun s left a1 a2 a3 a4 => Bu m (fun l left' g1 g2 g3 g4 => (ih (aJ l) g1).2 l left' (Nat.le_refl _) g2 g3 g4) s left a1 a2 a3 a4
  exact ⟨h1,fun l left g1 g2 g3 g4 => yH m h1 l left g1 g2 g3 g4⟩
theorem mU (p:Prg) (left:Int) (h0:0 ≤ left) (h1:left ≤ 1048576) (hl:p.types.length ≤ 9223372036854775807) (hln:D6 p.body):PC Tryz.prog 7 [cJ p,iv left] (fun r => r = iv (Cb (p.types.length + aJ p.body:Nat) left)):=by
 have c1 := Ct p.types left h0 h1 hl
 by_cases q1 : (p.types.length : Int) ≤ left
 ·rw [kL q1] at c1
  have c2 := (F2 _).2 p.body (left - p.types.length) (Nat.le_refl _) hln (by omega) (by omega)
  by_cases q2 : (aJ p.body : Int) ≤ left - p.types.length
  ·rw [kL q2] at c2
   rw [kL (by omega)]
   refine aD Tryz.func7 Tryz.ntmps7 ?_
   repeat' (first|(apply aF;first|(apply aB (k := 24);rfl;exact c1;exact Pur.pf;rfl)|(apply aB (k := 25);rfl;exact c2;exact Pur.pf;rfl))|refine aE ?_|(refine aL ?_ ?_ <;> intro hc hq <;> try (exfalso;omega))|fail)
   all_goals first
    | (exfalso;omega)
    | (refine aC rfl ⟨?_,rfl⟩; simp only [aN]; refine congrArg (fun z => AV.v (Value.int .i64 z)) ?_; omega)
  ·rw [iA q2] at c2
   rw [iA (by omega)]
   refine aD Tryz.func7 Tryz.ntmps7 ?_
   repeat' (first|(apply aF;first|(apply aB (k := 24);rfl;exact c1;exact Pur.pf;rfl)|(apply aB (k := 25);rfl;exact c2;exact Pur.pf;rfl))|refine aE ?_|(refine aL ?_ ?_ <;> intro hc hq <;> try (exfalso;omega))|fail)
   all_goals first
    | (exfalso;omega)
    | (refine aC rfl ⟨?_,rfl⟩; rfl)
 ·rw [iA q1] at c1
  rw [iA (by omega)]
  refine aD Tryz.func7 Tryz.ntmps7 ?_
  repeat' (first|(apply aF;(apply aB (k := 24);rfl;exact c1;exact Pur.pf;rfl))|refine aE ?_|fail)
  all_goals first
   | (exfalso;omega)
   | (refine aC rfl ⟨?_,rfl⟩; rfl)
theorem HQ {xs:List AL.Stmt}{k:Nat}(s:AL.Stmt) (hk:k < xs.length):eR (aA aP xs) (0 + k * 6) [iv s.op,iv s.x,iv s.y,iv s.n,sl aP s.th,sl aP s.el] = aA aP (xs.set k s) := hG hk (e7 s).symm
theorem Du:∀ n:Nat,aA cN (List.replicate n 0) = aA cI (List.replicate n 0)
 | 0 => rfl
 | n + 1 => by rw [List.replicate_succ,List.replicate_succ]; show cN 0 ++ aA cN (List.replicate n 0) = cI 0 ++ aA cI (List.replicate n 0);rw [Du n]; rfl
theorem Dv (l:List Int) (hl:l.length ≤ 1048576):PC Tryz.prog 32 [sl cI l] (fun r => r = sl cI l):=by
 refine aD Tryz.func32 Tryz.ntmps32 ?_
 repeat' (first|refine aE ?_|fail)
 rw [Du]
 refine aK (σ := Nat × List Int) [0,3] [] (fun k => [(4,iv (k.1 : Int))]) (fun k => [(0,some (aA cI k.2))]) (fun k => k.1 ≤ l.length ∧ k.2.length = l.length ∧ (∀ j,j < k.1 → k.2[j]! = l[j]!)) (fun k => l.length - k.1) (0,List.replicate l.length 0) ⟨by omega,by simp,by omega⟩ ?_
 rintro ⟨k,u⟩ ⟨hk,hul,hu⟩
 dsimp only at hk hul hu ⊢
 repeat' (first|refine aE ?_|(refine aL ?_ ?_ <;> intro hc hq <;> try (exfalso;omega))|fail)
 ·(refine c9 (k + 1, u.set k l[k]!) (Le.renA [(0, 0)]) ?_ ?_)
  ·refine ⟨by dsimp only; omega, by dsimp only; rw [List.length_set]; exact hul, fun j hj => ?_⟩
   dsimp only at hj ⊢
   rw [bR]
   by_cases e : k = j
   ·subst e;rw [if_pos ⟨rfl,by omega⟩]
   ·rw [if_neg (fun q => e q.1)]; exact hu j (by omega)
  ·dsimp only;omega
 ·refine bD (Le.frzD (d := 2) (i := 0) rfl rfl) ?_
  have e : u = l := nB hul fun j hj => hu j (by omega)
  subst e
  exact aC rfl ⟨rfl,(by (exact cR _ _))⟩
theorem AJ (m:Nat) (ih:∀ l,aJ l < m → PC Tryz.prog 33 [sl aP l] (fun r => r = sl aP l)) (s:AL.Stmt) (hs:cM s ≤ m):PC Tryz.prog 77 [bY s] (fun r => r = bY s):=by
 have hct := gE s
 have c1 := ih s.th (by omega)
 have c2 := ih s.el (by omega)
 refine aD Tryz.func77 Tryz.ntmps77 ?_
 repeat' (first|(apply aF;(apply aB (k := 33);rfl;(first|exact c1|exact c2);exact Pur.pf;rfl))|refine aE ?_|fail)
 exact aC (l := [bY s]) rfl ⟨rfl,Pur.pf⟩
theorem yD (m:Nat) (hm:m ≤ 1048576) (ih:∀ s,cM s ≤ m → PC Tryz.prog 77 [bY s] (fun r => r = bY s)) (l:List AL.Stmt) (hs:aJ l ≤ m):PC Tryz.prog 33 [sl aP l] (fun r => r = sl aP l):=by
 have hlen := dO l
 refine aD Tryz.func33 Tryz.ntmps33 ?_
 repeat' (first|refine aE ?_|fail)
 refine I1 (Le.zeroS (i := 0) (m := l.length) rfl) ?_
 refine aK (σ := Nat × List AL.Stmt) [0,3] [] (fun k => [(4,iv (k.1 : Int))]) (fun k => [(0,some (aA aP k.2))]) (fun k => k.1 ≤ l.length ∧ k.2.length = l.length ∧ (∀ j,j < k.1 → k.2[j]! = l[j]!)) (fun k => l.length - k.1) (0,List.replicate l.length Jb) ⟨by omega,by simp,by omega⟩ ?_
 rintro ⟨k,u⟩ ⟨hk,hul,hu⟩
 dsimp only at hk hul hu ⊢
 by_cases hkl : k < l.length
 ·have hck := eQ l k hkl
  have c1 := ih l[k]! (by omega)
  repeat' (first|(apply aF;first|(apply aB (k := 77);rfl;exact c1;exact Pur.pf;rfl)|(apply bC;rfl;rfl;rfl;rfl;rfl;(rw [aI aP (e := 6)]; (show _ + 6 ≤ _);omega);exact HQ _ (by omega)))|refine aE ?_|(refine aL ?_ ?_ <;> intro hc hq <;> try (exfalso;omega))|fail)
  (refine c9 (k + 1,u.set k l[k]!) (Le.renA [(0,0)]) ?_ ?_)
  ·refine ⟨by dsimp only; omega, by dsimp only; rw [List.length_set]; exact hul, fun j hj => ?_⟩
   dsimp only at hj ⊢
   rw [bR]
   by_cases e : k = j
   ·subst e;rw [if_pos ⟨rfl,by omega⟩]
   ·rw [if_neg (fun q => e q.1)]; exact hu j (by omega)
  ·dsimp only;omega
 ·repeat' (first | refine aE ?_ | (refine aL ?_ ?_ <;> intro hc hq <;> try (exfalso; omega))|fail)
  refine bD (Le.frzD (d := 2) (i := 0) rfl rfl) ?_
  have e : u = l := nB hul fun j hj => hu j (by omega)
  subst e
  exact aC rfl ⟨rfl,(by (exact cR _ _))⟩
theorem E3:∀ (m:Nat),m ≤ 1048576 → (∀ s,cM s ≤ m → PC Tryz.prog 77 [bY s] (fun r => r = bY s)) ∧ (∀ l,aJ l ≤ m → PC Tryz.prog 33 [sl aP l] (fun r => r = sl aP l)):=by
 intro m
 induction m using Nat.strongRecOn with
 | ind m ih =>
  intro hm
  have h1 : ∀ s,cM s ≤ m → PC Tryz.prog 77 [bY s] (fun r => r = bY s) := fun s a1 => AJ m (fun l g1 => (ih (aJ l) g1 (by omega)).2 l (Nat.le_refl _)) s a1
  exact ⟨h1,fun l g1 => yD m hm h1 l g1⟩
theorem vX (p:Prg) (hl:p.types.length ≤ 1048576) (hs:aJ p.body ≤ 1048576):PC Tryz.prog 9 [cJ p] (fun r => r = cJ p):=by
 have c1 := Dv p.types hl
 have c2 := (E3 _ hs).2 p.body (Nat.le_refl _)
 refine aD Tryz.func9 Tryz.ntmps9 ?_
 repeat' (first|(apply aF;first|(apply aB (k := 32);rfl;exact c1;exact Pur.pf;rfl)|(apply aB (k := 33);rfl;exact c2;exact Pur.pf;rfl))|refine aE ?_|fail)
 exact aC (l := [cJ p]) rfl ⟨rfl,Pur.pf⟩
theorem wK (L:List Int) (hl:L.length ≤ 1048576):PC Tryz.prog 11 [sl cI L,sl cI L] (fun r => r = bv true):=by
 refine aD Tryz.func11 Tryz.ntmps11 ?_
 repeat' (first|refine aE ?_|(refine aL ?_ ?_ <;> intro hc hq <;> try (exfalso;omega))|fail)
 ·exact (hq trivial).elim
 refine aK (σ := Nat) [0,1] [] (fun k => [(5,iv (k : Int))]) (fun k => []) (fun k => k ≤ L.length) (fun k => L.length - k) (0) (by omega) ?_
 rintro k hk
 repeat' (first|refine aE ?_|(refine aL ?_ ?_ <;> intro hc hq <;> try (exfalso;omega))|refine cC ?_|fail)
 ·exfalso
  simp at hq
 ·(refine c9 (k + 1) (Le.renA []) ?_ ?_)
  ·omega
  ·omega
 ·exact aC rfl ⟨rfl,rfl⟩
theorem Ay (m:Nat) (ih:∀ l,aJ l < m → PC Tryz.prog 38 [sl aP l,sl aP l] (fun r => r = bv true)) (s:AL.Stmt) (hs:cM s ≤ m):PC Tryz.prog 83 [bY s,bY s] (fun r => r = bv true):=by
 have hct := gE s
 have c1 := ih s.th (by omega)
 have c2 := ih s.el (by omega)
 refine aD Tryz.func83 Tryz.ntmps83 ?_
 repeat' (first|(apply aF;(apply aB (k := 38);rfl;(first|exact c1|exact c2);exact Pur.pf;rfl))|refine aE ?_|(refine aL ?_ ?_ <;> intro hc hq <;> try (exfalso;omega))|fail)
 all_goals first
  | (exfalso;exact (by assumption : ¬ True) trivial)
  | exact aC rfl ⟨rfl,rfl⟩
theorem xO (m:Nat) (hm:m ≤ 1048576) (ih:∀ s,cM s ≤ m → PC Tryz.prog 83 [bY s,bY s] (fun r => r = bv true)) (l:List AL.Stmt) (hs:aJ l ≤ m):PC Tryz.prog 38 [sl aP l,sl aP l] (fun r => r = bv true):=by
 have hlen := dO l
 refine aD Tryz.func38 Tryz.ntmps38 ?_
 repeat' (first|refine aE ?_|(refine aL ?_ ?_ <;> intro hc hq <;> try (exfalso;omega))|fail)
 ·exact (hq trivial).elim
 refine aK (σ := Nat) [0,1] [] (fun k => [(5,iv (k : Int))]) (fun k => []) (fun k => k ≤ l.length) (fun k => l.length - k) (0) (by omega) ?_
 rintro k hk
 by_cases hkl : k < l.length
 ·have hck := eQ l k hkl
  have c1 := ih l[k]! (by omega)
  repeat' (first|(apply aF;(apply aB (k := 83);rfl;exact c1;exact Pur.pf;rfl))|refine aE ?_|(refine aL ?_ ?_ <;> intro hc hq <;> try (exfalso;omega))|refine cC ?_|fail)
  all_goals first
   | (exfalso;exact (by assumption : ¬ True) trivial)
   | ((refine c9 (k + 1) (Le.renA []) ?_ ?_)
      ·omega
      ·omega)
 ·repeat' (first | refine aE ?_ | (refine aL ?_ ?_ <;> intro hc hq <;> try (exfalso; omega))|fail)
  exact aC rfl ⟨rfl,rfl⟩
theorem ET:∀ (m:Nat),m ≤ 1048576 → (∀ s,cM s ≤ m → PC Tryz.prog 83 [bY s,bY s] (fun r => r = bv true)) ∧ (∀ l,aJ l ≤ m → PC Tryz.prog 38 [sl aP l,sl aP l] (fun r => r = bv true)):=by
 intro m
 induction m using Nat.strongRecOn with
 | ind m ih =>
  intro hm
  have h1 : ∀ s,cM s ≤ m → PC Tryz.prog 83 [bY s,bY s] (fun r => r = bv true) := fun s a1 => Ay m (fun l g1 => (ih (aJ l) g1 (by omega)).2 l (Nat.le_refl _)) s a1
  exact ⟨h1,fun l g1 => xO m hm h1 l g1⟩
theorem vR (p:Prg) (hl:p.types.length ≤ 1048576) (hs:aJ p.body ≤ 1048576):PC Tryz.prog 12 [cJ p,cJ p] (fun r => r = bv true):=by
 have c1 := wK p.types hl
 have c2 := (ET _ hs).2 p.body (Nat.le_refl _)
 refine aD Tryz.func12 Tryz.ntmps12 ?_
 repeat' (first|(apply aF;first|(apply aB (k := 11);rfl;exact c1;exact Pur.pf;rfl)|(apply aB (k := 38);rfl;exact c2;exact Pur.pf;rfl))|refine aE ?_|fail)
 all_goals first
  | (exfalso;exact (by assumption : ¬ True) trivial)
  | exact aC rfl ⟨rfl,rfl⟩
end Go.Proofs.YtgkalkgplcdnkaaGreat
namespace Go.Proofs.YtgkalkgplcdnkaaGreat
open Go.AL Go.ChangeShapes Go.WideShapes Go.ChangeAt Go.RowKit
theorem vI {w:World}{b:Nat}:∀ (cs:List AV) (l:List Value) (o:Nat),RdL w (fun _ => False) (fun _ => none) cs l → (∀ j,j < l.length → w.cell? ⟨b,o + j,none⟩ = l[j]?) → RdC w (fun _ => False) (fun _ => none) cs b o
 | [],_,_,_,_ => by simp only [RdC]
 | c :: cs, l, o, h, hc => by
  simp only [RdL] at h
  obtain ⟨x,l',rfl,h1,h2,h3⟩ := h
  simp only [RdC]
  refine ⟨⟨x,by simpa using hc 0 (by simp),h1,h2⟩,vI cs l' (o + 1) h3 fun j hj => ?_⟩
  have := hc (j + 1) (by simpa using hj)
  rw [show o + 1 + j = o + (j + 1) from by omega,this]; rfl
theorem uN {w:World}{bad:Nat → Prop}{ι:Pl}{b:Nat}:∀ (cs ds:List AV) (o:Nat),RdC w bad ι cs b o → RdC w bad ι ds b (o + cs.length) → RdC w bad ι (cs ++ ds) b o
 | [],ds,o,_,h => by simpa using h
 | c :: cs, ds, o, h, h2 => by
  simp only [List.cons_append,RdC] at h ⊢
  exact ⟨h.1,uN cs ds (o + 1) h.2 (by rw [List.length_cons] at h2;rwa [show o + 1 + cs.length = o + (cs.length + 1) from by omega])⟩
theorem RdC_stmts {w:World}{b:Nat}:∀ (l:List AL.Stmt) (o:Nat),(∀ i,i < l.length → RdC w (fun _ => False) (fun _ => none) (aP l[i]!) b (o + i * 6)) → RdC w (fun _ => False) (fun _ => none) (aA aP l) b o
 | [],_,_ => by simp only [aA,List.flatMap_nil,RdC]
 | s :: l, o, h => by
  have e : aA aP (s :: l) = aP s ++ aA aP l := by simp only [aA,List.flatMap_cons]
  rw [e]
  have h0 := h 0 (by simp)
  refine uN _ _ o (by simpa using h0) (RdC_stmts l _ fun i hi => ?_)
  have hi' := h (i + 1) (by simpa using hi)
  have e6 : (aP s).length = 6 := by rw [e7]; rfl
  rw [e6,show o + 6 + i * 6 = o + (i + 1) * 6 from by omega]
  simpa using hi'
theorem uK {w:World}{b:Nat}:∀ (zs:List Int) (o:Nat),(∀ j,j < zs.length → w.cell? ⟨b,o + j,none⟩ = some (.int .i64 zs[j]!)) → RdC w (fun _ => False) (fun _ => none) (aA cI zs) b o
 | [],_,_ => by simp only [aA,List.flatMap_nil,RdC]
 | x :: zs, o, h => by
  have h0 := h 0 (by simp)
  have e : aA cI (x :: zs) = iv x :: aA cI zs := rfl
  rw [e]
  simp only [RdC]
  refine ⟨⟨.int .i64 x,by simpa using h0,rfl,by simp only [Rd]⟩,uK zs (o + 1) fun j hj => ?_⟩
  have := h (j + 1) (by simpa using hj)
  rw [show o + 1 + j = o + (j + 1) from by omega]
  simpa using this
theorem yN:Tryz.prog.cellsOf 3 = 1 := by kernel_rfl
theorem yZ:Tryz.prog.cellsOf 23 = 1 := by kernel_rfl
theorem EE:Tryz.prog.cellsOf 22 = 1 := by kernel_rfl
theorem vT:Tryz.prog.cellsOf 100 = 6 := by kernel_rfl
theorem Fh:Tryz.prog.cellsOf 25 = 2 := by kernel_rfl
theorem Fb:Tryz.prog.cellsOf 44 = 3 := by kernel_rfl
theorem tY {α:Type}[Inhabited α] {P:Nat → α → Prop}(n:Nat) (h:∀ i,i < n → ∃ x,P i x):∃ l:List α,l.length = n ∧ ∀ i,i < n → P i l[i]!:=by
 induction n with
 | zero => exact ⟨[],rfl,by omega⟩
 | succ n ih =>
  obtain ⟨l,h1,h2⟩ := ih fun i hi => h i (by omega)
  obtain ⟨x,hx⟩ := h n (by omega)
  refine ⟨l ++ [x],by simp [h1],fun i hi => ?_⟩
  by_cases e : i < n
  ·rw [aW _ _ (by simp;omega),List.getElem_append_left (by omega),← aW l i (by omega)]; exact h2 i e
  ·have : i = n := by omega
   subst this
   rw [aW _ _ (by simp;omega),List.getElem_append_right (by omega)]
   simp only [h1,Nat.sub_self,List.getElem_cons_zero]; exact hx
section
variable {H : Type} {enc : TypeId × Value → H} {W : World}
theorem F3 {fuel:Nat}{v:Value}{x:DataW H × List MemPlace}(hf:DataW.trod enc Tryz.prog W 0 (fun _ => true) true fuel 22 [v] = some x):∃ l:List Int,l.length ≤ 9223372036854775807 ∧ Rd W (fun _ => False) (fun _ => none) (sl cI l) v ∧ v.oneCell' = true:=by
 rcases open_ints Tryz.underlying22 Tryz.underlying3 yN hf with ⟨hcs,hx⟩ | ⟨a,len,cap,zs,hcs,_,hl,hm,hz,hx,hcell,hwz⟩
 ·simp at hcs
  subst hcs
  refine ⟨[],by decide,?_,rfl⟩
  simp only [Rd]
  exact ⟨none,0,rfl,.inl rfl⟩
 ·simp at hcs
  subst hcs
  simp only [if_true] at hz
  have hlen : (zs.take len).length = len := by simp;omega
  have hmx : maxLen = 9223372036854775807 := by decide
  refine ⟨zs.take len,by omega,?_,rfl⟩
  simp only [Rd]
  refine ⟨some a,cap,by rw [hlen],?_⟩
  by_cases h00 : len = 0
  ·exact .inl (by rw [hlen]; exact h00)
  ·obtain ⟨b, off, spot⟩ := a
   have hspot : spot = none := by simpa [Addr.add] using World.cell?_spot (hcell 0 (by omega))
   subst hspot
   refine .inr ⟨b,off,by rw [hlen]; exact hl,rfl,.inr ⟨fun h => h,uK _ _ fun j hj => ?_⟩⟩
   rw [hlen] at hj
   have hcj := hcell j (by omega)
   rw [Addr.add_lit] at hcj
   rw [hcj,aW _ _ (by rw [hlen]; exact hj),List.getElem_take]
   simp [List.getD,List.getElem?_eq_getElem (show j < zs.length by omega)]
theorem Ju {cs:List Value}(h:cs.length = 6):∃ a b c d e f,cs = [a,b,c,d,e,f]:=by
 match cs,h with
 | [a,b,c,d,e,f],_ => exact ⟨a,b,c,d,e,f,rfl⟩
theorem D0:∀ fuel:Nat,(∀ cs x,DataW.trod enc Tryz.prog W 0 (fun _ => true) true fuel 100 cs = some x → ∃ s:AL.Stmt,Bh s ∧ cs.length = 6 ∧ RdL W (fun _ => False) (fun _ => none) (aP s) cs) ∧
  (∀ v x,DataW.trod enc Tryz.prog W 0 (fun _ => true) true fuel 23 [v] = some x → ∃ l : List AL.Stmt,D6 l ∧ Rd W (fun _ => False) (fun _ => none) (sl aP l) v ∧ v.oneCell' = true) := by
 intro fuel
 induction fuel using Nat.strongRecOn with
 | ind fuel ih =>
  constructor
  ·intro cs x h
   obtain ⟨xs,n,hn,_,hl,hlen,hf⟩ := DataW.trod_struct Tryz.underlying100 h
   rw [vT] at hl
   obtain ⟨v0,v1,v2,v3,v4,v5,rfl⟩ := Ju hl
   have f0 := hf 0 _ rfl
   have f1 := hf 1 _ rfl
   have f2 := hf 2 _ rfl
   have f3 := hf 3 _ rfl
   have f4 := hf 4 _ rfl
   have f5 := hf 5 _ rfl
   have g : ∀ i,i < 6 → ∃ y,xs[i]? = some y := fun i hi => ⟨xs[i]'(by rw [hlen]; exact hi),List.getElem?_eq_getElem (by rw [hlen]; exact hi)⟩
   obtain ⟨y0,e0⟩ := g 0 (by decide)
   obtain ⟨y1,e1⟩ := g 1 (by decide)
   obtain ⟨y2,e2⟩ := g 2 (by decide)
   obtain ⟨y3,e3⟩ := g 3 (by decide)
   obtain ⟨y4,e4⟩ := g 4 (by decide)
   obtain ⟨y5,e5⟩ := g 5 (by decide)
   rw [e0] at f0
   rw [e1] at f1
   rw [e2] at f2
   rw [e3] at f3
   rw [e4] at f4
   rw [e5] at f5
   change DataW.trod _ _ _ _ _ _ n 3 (([v0,v1,v2,v3,v4,v5].drop 0).take (Tryz.prog.cellsOf 3)) = _ at f0
   change DataW.trod _ _ _ _ _ _ n 3 (([v0,v1,v2,v3,v4,v5].drop 1).take (Tryz.prog.cellsOf 3)) = _ at f1
   change DataW.trod _ _ _ _ _ _ n 3 (([v0,v1,v2,v3,v4,v5].drop 2).take (Tryz.prog.cellsOf 3)) = _ at f2
   change DataW.trod _ _ _ _ _ _ n 3 (([v0,v1,v2,v3,v4,v5].drop 3).take (Tryz.prog.cellsOf 3)) = _ at f3
   change DataW.trod _ _ _ _ _ _ n 23 (([v0,v1,v2,v3,v4,v5].drop 4).take (Tryz.prog.cellsOf 23)) = _ at f4
   change DataW.trod _ _ _ _ _ _ n 23 (([v0,v1,v2,v3,v4,v5].drop 5).take (Tryz.prog.cellsOf 23)) = _ at f5
   rw [yN] at f0 f1 f2 f3
   rw [yZ] at f4 f5
   obtain ⟨n0,q0,_,_⟩ := DataW.trod_int Tryz.underlying3 f0
   obtain ⟨n1,q1,_,_⟩ := DataW.trod_int Tryz.underlying3 f1
   obtain ⟨n2,q2,_,_⟩ := DataW.trod_int Tryz.underlying3 f2
   obtain ⟨n3,q3,_,_⟩ := DataW.trod_int Tryz.underlying3 f3
   have ih' := ih n (by omega)
   obtain ⟨l4,a4,b4,c4⟩ := ih'.2 v4 _ f4
   obtain ⟨l5,a5,b5,c5⟩ := ih'.2 v5 _ f5
   simp at q0 q1 q2 q3
   subst q0 q1 q2 q3
   refine ⟨.mk n0 n1 n2 n3 l4 l5,by simp only [Bh]; exact ⟨a4,a5⟩,rfl,?_⟩
   rw [e7]
   simp only [RdL]
   exact ⟨_,_,rfl,rfl,(by simp only [Rd]; rfl),_,_,rfl,rfl,(by simp only [Rd]; rfl),_,_,rfl,rfl,(by simp only [Rd]; rfl),_,_,rfl,rfl,(by simp only [Rd]; rfl),_,_,rfl,c4,b4,_,_,rfl,c5,b5,rfl⟩
  ·intro v x h
   rcases DataW.trod_slice Tryz.underlying23 h with ⟨hcs,_⟩ | ⟨a,len,cap,elems,rest,n,hn,hcs,_,hb,hl,hm,hlen,hel,hsp,hns⟩
   ·simp at hcs
    subst hcs
    refine ⟨[],⟨by decide,by simp only [El]⟩,?_,rfl⟩
    simp only [Rd]
    exact ⟨none,0,rfl,.inl rfl⟩
   ·simp at hcs
    subst hcs
    rw [vT] at hel
    have hmx : maxLen = 9223372036854775807 := by decide
    have key : ∀ i, i < len → ∃ s : AL.Stmt, Bh s ∧ ∃ cs : List Value, cs.length = 6 ∧ RdL W (fun _ => False) (fun _ => none) (aP s) cs ∧ ∀ j, j < 6 → W.cell? ((a.add (i * 6)).add j) = cs[j]? := fun i hi => by
     have h1 := hel i hi
     rw [List.getElem?_eq_getElem (by omega),Option.bind_eq_some_iff] at h1
     obtain ⟨cs,h2,h3⟩ := h1
     obtain ⟨s,s1,s2,s3⟩ := (ih n (by omega)).1 cs _ h3
     exact ⟨s,s1,cs,s2,s3,(World.cells?_some h2).2.2⟩
    obtain ⟨l,k1,k2⟩ := tY len key
    refine ⟨l,⟨by omega,CP fun s hs => ?_⟩,?_,rfl⟩
    ·obtain ⟨i, hi, e⟩ := List.getElem_of_mem hs
     have := (k2 i (by omega)).1
     rw [aW _ _ hi,e] at this;exact this
    ·simp only [Rd]
     refine ⟨some a,cap,by rw [k1],?_⟩
     by_cases h00 : len = 0
     ·exact .inl (by rw [k1]; exact h00)
     ·obtain ⟨b, off, spot⟩ := a
      have hspot : spot = none := by
       obtain ⟨_,cs,c1,_,c3⟩ := k2 0 (by omega)
       have := c3 0 (by decide)
       rw [List.getElem?_eq_getElem (by omega)] at this
       simpa [Addr.add] using World.cell?_spot this
      subst hspot
      refine .inr ⟨b,off,by rw [k1]; exact hl,rfl,.inr ⟨fun h => h,RdC_stmts _ _ fun i hi => ?_⟩⟩
      rw [k1] at hi
      obtain ⟨_,cs,c1,c2,c3⟩ := k2 i hi
      refine vI _ cs _ c2 fun j hj => ?_
      have := c3 j (by omega)
      rw [Addr.add_lit,Addr.add_lit] at this
      exact this
theorem EA {base:Nat}{v0:Value}{d0:DataW H}{p:List MemPlace}(hval:Value.okWide Tryz.prog W .any base 25 v0) (h0:DataW.Trod enc Tryz.prog W 0 (fun _ => true) true 25 v0 d0 p) :
  ∃ q : Prg,q.types.length ≤ 9223372036854775807 ∧ D6 q.body ∧ Rd W (fun _ => False) (fun _ => none) (cJ q) v0 := by
 obtain ⟨cs,rfl,hsz⟩ := okWide_struct Tryz.underlying25 hval
 obtain ⟨fuel,hf⟩ := h0
 obtain ⟨xs,n,hn,_,hl,hlen,hg⟩ := DataW.trod_struct Tryz.underlying25 hf
 have f0 := hg 0 _ rfl
 have f1 := hg 1 _ rfl
 have g : ∀ i,i < 2 → ∃ y,xs[i]? = some y := fun i hi => ⟨xs[i]'(by rw [hlen]; exact hi),List.getElem?_eq_getElem (by rw [hlen]; exact hi)⟩
 obtain ⟨y0,e0⟩ := g 0 (by decide)
 obtain ⟨y1,e1⟩ := g 1 (by decide)
 rw [e0] at f0
 rw [e1] at f1
 change DataW.trod _ _ _ _ _ _ n 22 (((Value.agg cs).cells.toList.drop 0).take (Tryz.prog.cellsOf 22)) = _ at f0
 change DataW.trod _ _ _ _ _ _ n 23 (((Value.agg cs).cells.toList.drop 1).take (Tryz.prog.cellsOf 23)) = _ at f1
 rw [EE] at f0
 rw [yZ] at f1
 have hcs : (Value.agg cs).cells.toList = cs.toList := rfl
 rw [Fh] at hl
 rw [hcs] at hl f0 f1
 obtain ⟨a, b, hab⟩ : ∃ a b, cs.toList = [a, b] := by
  match h : cs.toList,hl with
  | [a,b],_ => exact ⟨a,b,rfl⟩
 rw [hab] at f0 f1
 obtain ⟨ts,t1,t2,t3⟩ := F3 f0
 obtain ⟨body,b1,b2,b3⟩ := (D0 n).2 _ _ f1
 refine ⟨⟨ts,body⟩,t1,b1,?_⟩
 simp only [Rd]
 refine ⟨[a,b],by rw [← hab],?_⟩
 simp only [RdL]
 exact ⟨_,_,rfl,t3,t2,_,_,rfl,b3,b2,rfl⟩
theorem wY {base:Nat}{v0:Value}{d0:DataW H}{p:List MemPlace}(hval:Value.okWide Tryz.prog W .any base 44 v0) (h0:DataW.Trod enc Tryz.prog W 0 (fun _ => true) true 44 v0 d0 p) :
  ∃ x : Iss,Rd W (fun _ => False) (fun _ => none) (Jn x) v0 := by
 obtain ⟨cs,rfl,hsz⟩ := okWide_struct Tryz.underlying44 hval
 obtain ⟨fuel,hf⟩ := h0
 obtain ⟨xs,n,hn,_,hl,hlen,hg⟩ := DataW.trod_struct Tryz.underlying44 hf
 have f0 := hg 0 _ rfl
 have f1 := hg 1 _ rfl
 have f2 := hg 2 _ rfl
 have g : ∀ i,i < 3 → ∃ y,xs[i]? = some y := fun i hi => ⟨xs[i]'(by rw [hlen]; exact hi),List.getElem?_eq_getElem (by rw [hlen]; exact hi)⟩
 obtain ⟨y0,e0⟩ := g 0 (by decide)
 obtain ⟨y1,e1⟩ := g 1 (by decide)
 obtain ⟨y2,e2⟩ := g 2 (by decide)
 rw [e0] at f0
 rw [e1] at f1
 rw [e2] at f2
 change DataW.trod _ _ _ _ _ _ n 3 (((Value.agg cs).cells.toList.drop 0).take (Tryz.prog.cellsOf 3)) = _ at f0
 change DataW.trod _ _ _ _ _ _ n 3 (((Value.agg cs).cells.toList.drop 1).take (Tryz.prog.cellsOf 3)) = _ at f1
 change DataW.trod _ _ _ _ _ _ n 3 (((Value.agg cs).cells.toList.drop 2).take (Tryz.prog.cellsOf 3)) = _ at f2
 rw [yN] at f0 f1 f2
 have hcs : (Value.agg cs).cells.toList = cs.toList := rfl
 rw [Fb] at hl
 rw [hcs] at hl f0 f1 f2
 obtain ⟨a, b, c, hab⟩ : ∃ a b c, cs.toList = [a, b, c] := by
  match h : cs.toList,hl with
  | [a,b,c],_ => exact ⟨a,b,c,rfl⟩
 rw [hab] at f0 f1 f2
 obtain ⟨n0,q0,_,_⟩ := DataW.trod_int Tryz.underlying3 f0
 obtain ⟨n1,q1,_,_⟩ := DataW.trod_int Tryz.underlying3 f1
 obtain ⟨n2,q2,_,_⟩ := DataW.trod_int Tryz.underlying3 f2
 simp at q0 q1 q2
 subst q0 q1 q2
 refine ⟨⟨n0,n1,n2⟩,?_⟩
 simp only [Rd]
 refine ⟨[.int .i64 n0,.int .i64 n1,.int .i64 n2],by rw [← hab],?_⟩
 simp only [RdL]
 exact ⟨_,_,rfl,rfl,(by simp only [Rd]),_,_,rfl,rfl,(by simp only [Rd]),_,_,rfl,rfl,(by simp only [Rd]),rfl⟩
end
end Go.Proofs.YtgkalkgplcdnkaaGreat
namespace Go.Proofs.YtgkalkgplcdnkaaGreat
open Go.AL Go.RowKit
theorem Ej (l:List Int) (hl:l.length ≤ 1048576):wP Tryz.prog 32 [sl cI l] (fun r E => ∃ a c B,r = .v (.slice a l.length c) ∧ E = [(.ints l,.slice a l.length c,B)]):=by
 (refine eA Tryz.func32 rfl (by simp [Tryz.ntmps32]) ?_; rw [Tryz.ntmps32])
 refine awt_lift ?_
 repeat' (first|refine aE ?_|fail)
 rw [Du]
 refine aK (σ := Nat × List Int) [0,3] [] (fun k => [(4,iv (k.1 : Int))]) (fun k => [(0,some (aA cI k.2))]) (fun k => k.1 ≤ l.length ∧ k.2.length = l.length ∧ (∀ j,j < k.1 → k.2[j]! = l[j]!)) (fun k => l.length - k.1) (0,List.replicate l.length 0) ⟨by omega,by simp,by omega⟩ ?_
 rintro ⟨k,u⟩ ⟨hk,hul,hu⟩
 dsimp only at hk hul hu ⊢
 repeat' (first|refine aE ?_|(refine aL ?_ ?_ <;> intro hc hq <;> try (exfalso;omega))|fail)
 ·(refine c9 (k + 1, u.set k l[k]!) (Le.renA [(0, 0)]) ?_ ?_)
  ·refine ⟨by dsimp only; omega, by dsimp only; rw [List.length_set]; exact hul, fun j hj => ?_⟩
   dsimp only at hj ⊢
   rw [bR]
   by_cases e : k = j
   ·subst e;rw [if_pos ⟨rfl,by omega⟩]
   ·rw [if_neg (fun q => e q.1)]; exact hu j (by omega)
  ·dsimp only;omega
 ·have e : u = l := nB hul fun j hj => hu j (by omega)
  subst e
  exact Ez rfl rfl rfl rfl (fun a c B => ⟨a,c,B,rfl,rfl⟩)
theorem AF (m:Nat) (ih:∀ l,aJ l < m → wP Tryz.prog 33 [sl aP l] (fun r E => ∃ a c B,r = .v (.slice a l.length c) ∧ E = [(.stms l,.slice a l.length c,B)])) (s:AL.Stmt) (hs:cM s ≤ m) :
  wP Tryz.prog 77 [bY s] (fun r E => ∃ a4 c4 B4 a5 c5 B5,r = .agg [iv s.op,iv s.x,iv s.y,iv s.n,.v (.slice a4 s.th.length c4),.v (.slice a5 s.el.length c5)] ∧ E = [(.stms s.th,.slice a4 s.th.length c4,B4),(.stms s.el,.slice a5 s.el.length c5,B5)]) := by
 have hct := gE s
 have c1 := ih s.th (by omega)
 have c2 := ih s.el (by omega)
 (refine eA Tryz.func77 rfl (by simp [Tryz.ntmps77]) ?_; rw [Tryz.ntmps77])
 iterate 6
  refine aR (awt_lift ?_)
  repeat' (first|refine aE ?_|fail)
  show dE _ _ _ _ _ _
 refine aR (bQ ?_)
 refine aX (l1 := [_,_]) ?_
 repeat' (first|refine b8 ?_|fail)
 refine ⟨rfl,?_⟩
 refine cV rfl (.cons (.pur PurV.pf) .nil) c1 rfl ?_
 rintro _ _ ⟨a4,d4,B4,rfl,rfl⟩
 refine aX (l1 := [_,_]) (l2 := []) ?_
 repeat' (first|refine b8 ?_|fail)
 refine ⟨rfl,?_⟩
 refine bG ?_
 show dE _ _ _ _ _ _
 refine aR (bQ ?_)
 refine aX (l1 := [_,_]) ?_
 repeat' (first|refine b8 ?_|fail)
 refine ⟨rfl,?_⟩
 refine cV rfl (.cons (.pur PurV.pf) .nil) c2 rfl ?_
 rintro _ _ ⟨a5,d5,B5,rfl,rfl⟩
 refine aX (l1 := [_,_]) (l2 := []) ?_
 repeat' (first|refine b8 ?_|fail)
 refine ⟨rfl,?_⟩
 refine bG ?_
 show dE _ _ _ _ _ _
 refine awt_lift ?_
 repeat' (first|refine aE ?_|fail)
 exact r9 (l := [.agg [iv s.op,iv s.x,iv s.y,iv s.n,.v (.slice a4 s.th.length d4),.v (.slice a5 s.el.length d5)]]) rfl rfl rfl ⟨a4,d4,B4,a5,d5,B5,rfl,rfl⟩
theorem yT (m:Nat) (hm:m ≤ 1048576) (ih:∀ s,cM s ≤ m → wP Tryz.prog 77 [bY s] (fun r E => ∃ a4 c4 B4 a5 c5 B5,r = .agg [iv s.op,iv s.x,iv s.y,iv s.n,.v (.slice a4 s.th.length c4),.v (.slice a5 s.el.length c5)] ∧ E = [(.stms s.th,.slice a4 s.th.length c4,B4),(.stms s.el,.slice a5 s.el.length c5,B5)]))
  (l : List AL.Stmt) (hs : aJ l ≤ m) : wP Tryz.prog 33 [sl aP l] (fun r E => ∃ a c B,r = .v (.slice a l.length c) ∧ E = [(.stms l,.slice a l.length c,B)]) := by
 have hlen := dO l
 (refine eA Tryz.func33 rfl (by simp [Tryz.ntmps33]) ?_; rw [Tryz.ntmps33])
 iterate 2
  refine aR (awt_lift ?_)
  repeat' (first|refine aE ?_|fail)
  show dE _ _ _ _ _ _
 refine aR (aR (awt_lift ?_))
 repeat' (first|refine aE ?_|fail)
 show dE _ _ _ _ _ _
 rw [Cs]
 refine j6 ?_
 refine qN (σ := Nat × List SX) [0,3] [(0,_),(3,_)] [] [] (fun k => [(4,iv (k.1 : Int))]) (fun k => [(0,some (aA cT (k.2 ++ List.replicate (l.length - k.1) zT)))]) (fun k => iT k.2) (fun k => k.1 ≤ l.length ∧ k.2.length = k.1 ∧ (∀ j,j < k.1 → k.2[j]!.1 = l[j]!)) (fun k => l.length - k.1) (0,[]) ⟨by omega,rfl,by omega⟩ (rfl) rfl rfl (by repeat' (first|exact trivial|refine And.intro rfl ?_)) (by repeat' (first|exact trivial|refine And.intro (.inr rfl) ?_)) ?_
 rintro ⟨k,u⟩ ⟨hk,hul,hu⟩
 dsimp only at hk hul hu ⊢
 have hol : (u ++ List.replicate (l.length - k) zT).length = l.length := by rw [List.length_append,List.length_replicate]; omega
 refine aR (aR (awt_lift ?_))
 repeat' (first|refine aE ?_|fail)
 show dE _ _ _ _ _ _
 refine iZ rfl (fun hb => jA ?_) (fun hb => uM ?_)
 ·show dE _ _ _ _ _ _
  have hkl : k < l.length := by have := of_decide_eq_true hb;omega
  have hck := eQ l k hkl
  have c1 := ih l[k]! (by omega)
  refine aR (j6 (bQ ?_))
  refine aX (l1 := [_,_,_,_,_,_]) ?_
  repeat' (first|refine b8 ?_|fail)
  refine ⟨rfl,?_⟩
  refine cV rfl (.cons (.pur PurV.pf) .nil) c1 rfl ?_
  rintro _ _ ⟨a4,d4,B4,a5,d5,B5,rfl,rfl⟩
  refine aX (l1 := [_,_]) (l2 := []) ?_
  repeat' (first|(apply aF;(apply bC;rfl;rfl;rfl;rfl;rfl;(rw [aI cT (e := 6)]; (show _ + 6 ≤ _);omega);exact Ir (l[k]!,(.slice a4 l[k]!.th.length d4,B4),(.slice a5 l[k]!.el.length d5,B5)) (by omega)))|refine b8 ?_|fail)
  refine ⟨rfl,?_⟩
  refine bG ?_
  show dE _ _ _ _ _ _
  refine awt_lift ?_
  repeat' (first|refine aE ?_|fail)
  have e : (u ++ List.replicate (l.length - k) zT).set k (l[k]!, (.slice a4 l[k]!.th.length d4, B4), (.slice a5 l[k]!.el.length d5, B5)) = (u ++ [(l[k]!, (.slice a4 l[k]!.th.length d4, B4), (.slice a5 l[k]!.el.length d5, B5))]) ++ List.replicate (l.length - (k + 1)) zT := by
   rw [show l.length - k = l.length - (k + 1) + 1 by omega,List.replicate_succ,← hul]
   rw [List.set_append_right _ _ (Nat.le_refl _),Nat.sub_self,List.set_cons_zero,List.append_assoc]; rfl
  rw [e]
  refine ⟨(k + 1,u ++ [(l[k]!,(.slice a4 l[k]!.th.length d4,B4),(.slice a5 l[k]!.el.length d5,B5))]),⟨by dsimp only;omega,by simp [hul],fun j hj => ?_⟩,by dsimp only;omega,?_,Dz _ _⟩
  ·dsimp only at hj ⊢
   by_cases e2 : j < k
   ·rw [aW _ _ (by simp;omega),List.getElem_append_left (by omega),← aW u j (by omega)]; exact hu j e2
   ·have : j = k := by omega
    subst this
    rw [aW _ _ (by simp;omega),List.getElem_append_right (by omega)]; simp [hul]
  ·refine Le.ren [(0,0)] rfl (by decide) ?_ ?_ <;> repeat' (first|exact trivial|refine And.intro ⟨_,rfl,?_⟩ ?_|refine And.intro ⟨_,_,rfl,rfl,?_⟩ ?_|exact Or.inr rfl|refine Or.inl ⟨?_,(by first|rfl|exact cR _ _)⟩|rfl)
 ·have hkl : k = l.length := by have := of_decide_eq_false hb; omega
  show dE _ _ _ _ _ _
  have hm : u.map (·.1) = l := List.ext_getElem (by simp; omega) fun j h1 h2 => by
   have := hu j (by omega)
   rw [aW _ _ (by omega),aW _ _ h2] at this
   simpa using this
  have hul' : u.length = l.length := by omega
  rw [show u ++ List.replicate (l.length - k) zT = u by rw [hkl,Nat.sub_self]; simp]
  refine awt_lift ?_
  repeat' (first|refine aE ?_|fail)
  refine EP rfl rfl rfl hul'.symm (fun a c B => ⟨a,c,B,?_,?_⟩)
  ·rw [hul']
  ·rw [hul',hm]
theorem DO:∀ (m:Nat),m ≤ 1048576 → (∀ s,cM s ≤ m → wP Tryz.prog 77 [bY s] (fun r E => ∃ a4 c4 B4 a5 c5 B5,r = .agg [iv s.op,iv s.x,iv s.y,iv s.n,.v (.slice a4 s.th.length c4),.v (.slice a5 s.el.length c5)] ∧ E = [(.stms s.th,.slice a4 s.th.length c4,B4),(.stms s.el,.slice a5 s.el.length c5,B5)])) ∧
  (∀ l,aJ l ≤ m → wP Tryz.prog 33 [sl aP l] (fun r E => ∃ a c B,r = .v (.slice a l.length c) ∧ E = [(.stms l,.slice a l.length c,B)])) := by
 intro m
 induction m using Nat.strongRecOn with
 | ind m ih =>
  intro hm
  have h1 := fun s a1 => AF m (fun l g1 => (ih (aJ l) g1 (by omega)).2 l (Nat.le_refl _)) s a1
  exact ⟨h1,fun l g1 => yT m hm h1 l g1⟩
theorem uD (p:Prg) (hl:p.types.length ≤ 1048576) (hs:aJ p.body ≤ 1048576):wP Tryz.prog 9 [cJ p] (fun r E => ∃ a4 c4 B4 a5 c5 B5,r = .agg [.v (.slice a4 p.types.length c4),.v (.slice a5 p.body.length c5)] ∧ E = [(.ints p.types,.slice a4 p.types.length c4,B4),(.stms p.body,.slice a5 p.body.length c5,B5)]):=by
 have c1 := Ej p.types hl
 have c2 := (DO _ hs).2 p.body (Nat.le_refl _)
 (refine eA Tryz.func9 rfl (by simp [Tryz.ntmps9]) ?_; rw [Tryz.ntmps9])
 iterate 2
  refine aR (awt_lift ?_)
  repeat' (first|refine aE ?_|fail)
  show dE _ _ _ _ _ _
 refine aR (bQ ?_)
 refine aX (l1 := [_,_]) ?_
 repeat' (first|refine b8 ?_|fail)
 refine ⟨rfl,?_⟩
 refine cV rfl (.cons (.pur PurV.pf) .nil) c1 rfl ?_
 rintro _ _ ⟨a4,d4,B4,rfl,rfl⟩
 refine aX (l1 := [_,_]) (l2 := []) ?_
 repeat' (first|refine b8 ?_|fail)
 refine ⟨rfl,?_⟩
 refine bG ?_
 show dE _ _ _ _ _ _
 refine aR (bQ ?_)
 refine aX (l1 := [_,_]) ?_
 repeat' (first|refine b8 ?_|fail)
 refine ⟨rfl,?_⟩
 refine cV rfl (.cons (.pur PurV.pf) .nil) c2 rfl ?_
 rintro _ _ ⟨a5,d5,B5,rfl,rfl⟩
 refine aX (l1 := [_,_]) (l2 := []) ?_
 repeat' (first|refine b8 ?_|fail)
 refine ⟨rfl,?_⟩
 refine bG ?_
 show dE _ _ _ _ _ _
 refine awt_lift ?_
 repeat' (first|refine aE ?_|fail)
 exact r9 (l := [.agg [.v (.slice a4 p.types.length d4),.v (.slice a5 p.body.length d5)]]) rfl rfl rfl ⟨a4,d4,B4,a5,d5,B5,rfl,rfl⟩
theorem Ab {w:World}{bad:Nat → Prop}{ι:Pl}{b:Nat}:∀ (cs cs':List AV) (o:Nat),RdC w bad ι (cs ++ cs') b o → RdC w bad ι cs b o
 | [],_,_,_ => by simp only [RdC]
 | c :: cs, cs', o, h => by
  rw [List.cons_append] at h
  simp only [RdC] at h ⊢
  exact ⟨h.1,Ab cs cs' (o + 1) h.2⟩
theorem Le.immPre {ts:List (Nat × AV)}{hs:List (Nat × Option (List AV))}{n:Nat}{z0:Lo}{d k:Nat}{cs cs':List AV}(h:lk ts d = some (.imm k (cs ++ cs'))):Le ⟨ts,hs,n,z0⟩ ⟨(d,.imm k cs) :: ts,hs,n,z0⟩ :=
 Le.slot h fun w bad ι y hy => by
  simp only [Rd] at hy ⊢
  obtain ⟨a,c,rfl,hy⟩ := hy
  refine ⟨a,c,rfl,?_⟩
  rcases hy with hy | ⟨b,o,h1,h2,h3⟩
  ·exact .inl hy
  ·refine .inr ⟨b, o, h1, h2, ?_⟩
   rcases h3 with h3 | ⟨h3,h4⟩
   ·exact .inl (List.append_eq_nil_iff.1 h3).1
   ·exact .inr ⟨h3,Ab cs cs' o h4⟩
theorem sV (zs:List Int) (h:zs.length ≤ 1048576):MC Tryz.prog 36 [.own 0 0 zs.length 1] [(0,some (aA cI zs))] 1 (fun _:Unit => True) (fun _ => .tup []) (fun _ => [(0,some (aA cI (gV zs)))]):=by
 have hr : ∀ (w : World) (bad : Nat → Prop) (ι : Pl), Rd w bad ι (.tup []) (.tuple #[]) := fun w bad ι => by
  simp only [Rd]; exact ⟨[],rfl,by simp only [RdV]⟩
 refine Ca (eJ zs) (fun _ a cap w => (Tryz.slices_Sort_int_none a cap w).mono ?_) (fun blk off cap w hH hb _ => (Tryz.slices_Sort_int blk off cap zs w hH hb (by omega)).mono ?_)
 ·rintro e w' ⟨rfl, rfl⟩
  exact ⟨_,rfl,rfl,fun ι bad _ => hr _ _ _⟩
 ·rintro e w' ⟨rfl, n, os, rfl⟩
  exact ⟨_,n,os,rfl,rfl,fun ι bad _ _ => hr _ _ _⟩
theorem j7 (zs:List Int) (h:zs.length ≤ 1048576):MC Tryz.prog 37 [.own 0 0 zs.length 1] [(0,some (aA cI zs))] 1 (fun _:Unit => True) (fun _ => .own 0 0 (Lib.compact zs).length 1) (fun _ => [(0,some (aA cI (Lib.compact zs ++ List.replicate (zs.length - (Lib.compact zs).length) 0)))]):=by
 have hc := dL zs
 refine Ca (by rw [List.length_append,List.length_replicate]; omega) (fun hz a cap w => (Tryz.slices_Compact_int_empty a cap w).mono ?_) (fun blk off cap w hH hb hcap => (Tryz.slices_Compact_int blk off cap zs w hH (by omega) hcap).mono ?_)
 ·rintro e w' ⟨rfl, rfl⟩
  refine ⟨_,rfl,rfl,fun ι bad h => ?_⟩
  have h0 : (Lib.compact zs).length = 0 := by omega
  rw [h0]
  simp only [Rd]
  rcases h with ⟨h1,rfl | ⟨b,β,h2,rfl,h3⟩⟩
  ·exact .inl ⟨h1,trivial,a,rfl⟩
  ·exact .inr ⟨b,β,cap,h2,rfl,Nat.zero_le _,by omega⟩
 ·rintro e w' ⟨rfl, n, rfl⟩
  refine ⟨_,n,#[],rfl,by rw [Sort.grow_empty],fun ι bad h1 h2 => ?_⟩
  simp only [Rd]
  exact .inr ⟨blk,off,cap,h1,rfl,by omega,by omega⟩
theorem EY (a b:Int) (xs:List Int) (m:Nat) (hm:m = xs.length) (hx:m ≤ 1000):MC Tryz.prog 35 [iv a,iv b,.optr 0 0] [(0,some [.own 1 0 m 1]),(1,some (aA cI xs))] 2 (fun _:Unit => True) (fun _ => .tup []) (fun _ => [(0,some [.own 3 0 (m + 1) 1]),(3,some (aA cI (xs ++ [b])))]):=by
 refine aT Tryz.func35 Tryz.ntmps35 ?_
 repeat' (first|(apply aF;(apply aM (t := _);rfl;rfl;rfl;exact (rfl:_=some [_]);rfl;rfl))|refine aE ?_|fail)
 refine GA (l := []) rfl ?_
 exact aQ () trivial rfl ⟨.inr rfl,.inr rfl,trivial⟩
theorem v7 (p:Prg) (l:Int) (h:wX p l = true) (hl:p.types.length ≤ 1048576) (hs:aJ p.body ≤ 1048576):MC Tryz.prog 34 [cJ p,iv l,.clos (.func 35) [] [.optr 0 0]] [(0,some [.v (.slice none 0 0)])] 1 (fun _:Unit => True) (fun _ => bv true)
  (fun _ => [(0,some [.own 2 0 (pS (fN p l.toNat) (fun j => k6 p (iD j l.toNat) 80) (2 ^ l.toNat)).length 1]),(2,some (aA cI (pS (fN p l.toNat) (fun j => k6 p (iD j l.toNat) 80) (2 ^ l.toNat))))]) := by
 have hv0 := pD p hl (by omega)
 have hil := pF l
 obtain ⟨hv,h0,h1⟩ := nE.1 h
 rw [hv] at hv0
 obtain ⟨L,rfl⟩ := Int.eq_ofNat_of_zero_le h0
 rw [show (decide (0 ≤ (L : Int)) && decide ((L : Int) ≤ 6)) = true by rw [decide_eq_true h0,decide_eq_true h1]; rfl] at hil
 have hp : 2 ^ L ≤ 2 ^ 6 := Nat.pow_le_pow_right (by decide) (by omega)
 rw [Int.toNat_natCast]
 refine aT Tryz.func34 Tryz.ntmps34 ?_
 repeat' (first|(apply aF;first|(apply aB (k := 45);rfl;exact hv0;exact Pur.pf;rfl)|(apply aB (k := 78);rfl;exact hil;(rfl);rfl)|(apply zS;rfl;rfl;infer_instance;omega;rfl;(case' kk => intro hsm)))|refine aE ?_|fail)
 rw [Int.toNat_natCast]
 generalize hT : 2 ^ L = T at *
 refine AW.le ?_ (Le.nilCell (i := 0) 1 [] rfl (by decide) (by decide))
 refine aK (σ := Nat × List Int × Nat) [1,2,3,19] [] (fun s => [(20,iv (s.1 : Int))]) (fun s => [(0,some [.own 2 0 s.2.2 1]),(1,some [sl cI p.types,sl aP p.body]),(2,some (aA cI s.2.1))]) (fun s => s.1 ≤ T ∧ s.2.1 = pS (fN p L) (fun j => k6 p (iD j L) 80) s.1 ∧ s.2.2 = s.2.1.length) (fun s => T - s.1) (0,[],0) ⟨Nat.zero_le _,rfl,rfl⟩ ?_
 rintro ⟨k,xs,m⟩ ⟨hk,hxs,hm⟩
 dsimp only at hk hxs hm
 try dsimp only
 have hxl := zZ (B := fN p L) (A := fun j => k6 p (iD j L) 80) (k := k)
 have hch1 := yY (B := fN p L) (A := fun j => k6 p (iD j L) 80) (k := k)
 have hcs1 := vW (B := fN p L) (A := fun j => k6 p (iD j L) 80) (k := k)
 rw [← hxs] at hxl hch1 hcs1
 try dsimp only at hch1
 have hch := vK k L (by omega) (by omega)
 have hru := Gy p (iD k L) 80 hl hs (by rw [nC]; omega)
 have hto := EY (k : Int) (k6 p (iD k L) 80) xs m hm (by omega)
 have hbd : fN p L k = (decide (AU p (iD k L) 80 ≠ 0) && decide (AU p (iD k L) 80 ≠ 1)) := rfl
 generalize AU p (iD k L) 80 = e at hru hbd
 generalize k6 p (iD k L) 80 = a at hru hch1 hto
 repeat' (first|(apply aF;first|(apply aB (k := 80);rfl;exact hch;(rfl);rfl)|(apply aB (k := 79);rfl;exact hru;exact Pur.pf;rfl))|refine aE ?_|(refine aL ?_ ?_ <;> intro hc hq <;> try (exfalso;omega))|(refine cS ?_ ?_ <;> intro hg hq <;> try (exfalso;omega))|refine cC ?_|fail)
 ·have hbt : fN p L k = true := by rw [hbd]; simp_all
  refine Bi (k := 35) (avs := [iv (k : Int),iv a]) (avs0 := [iv (k : Int),iv a,.optr 0 0]) (rr' := .tup []) [0,2] 4 [(0,some [.own 4 0 (m + 1) 1]),(4,some (aA cI (xs ++ [a]))),(2,none)] hto rfl rfl rfl rfl ⟨⟨_,_,rfl,rfl,RnL.cons (RnV.own rfl) .nil⟩,⟨_,_,rfl,rfl,RnL.purI inferInstance⟩,trivial⟩ rfl (RnL.cons (RnV.purI inferInstance) (RnL.cons (RnV.purI inferInstance) (RnL.cons (RnV.optr rfl) .nil))) rfl (RnV.purI inferInstance) rfl ⟨⟨0,_,rfl,rfl,RnL.cons (RnV.own rfl) .nil⟩,⟨3,_,rfl,rfl,RnL.purI inferInstance⟩,trivial⟩ rfl ?_
  repeat' (first|refine aE ?_|fail)
  (apply c9 (k + 1,xs ++ [a],m + 1);focus (refine Le.renK [(1,1),(2,4)] rfl (by decide) ?_ ?_ <;> repeat' (first|exact trivial|refine And.intro ⟨_,rfl,.inr ⟨rfl,_,_,_,rfl,by decide⟩⟩ ?_|refine And.intro ⟨_,rfl,.inl ?_⟩ ?_|refine And.intro ⟨_,_,rfl,rfl,?_⟩ ?_|exact Or.inr rfl|exact Or.inl ⟨rfl,rfl⟩|exact Or.inl ⟨rfl,Pur.pf⟩|refine Or.inr (All2.cons ?_ ?_)|exact All2.nil)))
  ·exact ⟨by dsimp only;omega,(hch1 hbt).symm,by simp [hm]⟩
  ·dsimp only;omega
 ·have hbf : fN p L k = false := by rw [hbd]; simp_all
  (apply c9 (k + 1,xs,m);focus (refine Le.renK [(1,1),(2,2)] rfl (by decide) ?_ ?_ <;> repeat' (first|exact trivial|refine And.intro ⟨_,rfl,.inr ⟨rfl,_,_,_,rfl,by decide⟩⟩ ?_|refine And.intro ⟨_,rfl,.inl ?_⟩ ?_|refine And.intro ⟨_,_,rfl,rfl,?_⟩ ?_|exact Or.inr rfl|exact Or.inl ⟨rfl,rfl⟩|exact Or.inl ⟨rfl,Pur.pf⟩|refine Or.inr (All2.cons ?_ ?_)|exact All2.nil)))
  ·exact ⟨by dsimp only;omega,(hcs1 hbf).symm,hm⟩
  ·dsimp only;omega
 ·have hbf : fN p L k = false := by rw [hbd]; simp_all
  (apply c9 (k + 1,xs,m);focus (refine Le.renK [(1,1),(2,2)] rfl (by decide) ?_ ?_ <;> repeat' (first|exact trivial|refine And.intro ⟨_,rfl,.inr ⟨rfl,_,_,_,rfl,by decide⟩⟩ ?_|refine And.intro ⟨_,rfl,.inl ?_⟩ ?_|refine And.intro ⟨_,_,rfl,rfl,?_⟩ ?_|exact Or.inr rfl|exact Or.inl ⟨rfl,rfl⟩|exact Or.inl ⟨rfl,Pur.pf⟩|refine Or.inr (All2.cons ?_ ?_)|exact All2.nil)))
  ·exact ⟨by dsimp only;omega,(hcs1 hbf).symm,hm⟩
  ·dsimp only;omega
 ·obtain rfl : k = T := by omega
  refine aC rfl ?_
  rw [← hxs,← hm]
  exact aQ () trivial rfl ⟨.inr rfl,.inr rfl,trivial⟩
theorem qT (p:Prg) (l:Int) (h:wX p l = false) (hl:p.types.length ≤ 1048576) (hs:aJ p.body ≤ 1048576):MC Tryz.prog 34 [cJ p,iv l,.clos (.func 35) [] [.optr 0 0]] [(0,some [.v (.slice none 0 0)])] 1 (fun _:Unit => True) (fun _ => bv false) (fun _ => [(0,some [.v (.slice none 0 0)])]):=by
 have hv0 := pD p hl (by omega)
 have hil := pF l
 by_cases hv : cL p = true
 ·have hil2 : (decide (0 ≤ l) && decide (l ≤ 6)) = false := by unfold wX at h; rw [hv] at h; simpa using h
  rw [hv] at hv0
  rw [hil2] at hil
  refine aT Tryz.func34 Tryz.ntmps34 ?_
  repeat' (first|(apply aF;first|(apply aB (k := 45);rfl;exact hv0;exact Pur.pf;rfl)|(apply aB (k := 78);rfl;exact hil;(rfl);rfl))|refine aE ?_|fail)
  refine aC rfl ?_
  exact aQ () trivial rfl ⟨.inr rfl,trivial⟩
 ·have hv2 : cL p = false := by simpa using hv
  rw [hv2] at hv0
  refine aT Tryz.func34 Tryz.ntmps34 ?_
  repeat' (first|(apply aF;(apply aB (k := 45);rfl;exact hv0;exact Pur.pf;rfl))|refine aE ?_|fail)
  refine aC rfl ?_
  exact aQ () trivial rfl ⟨.inr rfl,trivial⟩
def sG (p : Prg) (l : Int) : List Int := if wX p l = true then pS (fN p l.toNat) (fun j => k6 p (iD j l.toNat) 80) (2 ^ l.toNat) else []
theorem sZ (p:Prg) (l:Int):(sG p l).length ≤ 64:=by
 unfold sG
 split
 ·rename_i h
  obtain ⟨_,h0,h1⟩ := nE.1 h
  have hp : 2 ^ l.toNat ≤ 2 ^ 6 := Nat.pow_le_pow_right (by decide) (by omega)
  exact Nat.le_trans zZ hp
 ·simp
theorem oZ (p:Prg) (l:Int) (hl:p.types.length ≤ 1048576) (hs:aJ p.body ≤ 1048576):PC Tryz.prog 10 [cJ p,iv l] (fun r => r = sl cI (Lib.compact (gV (sG p l)))):=by
 have harg : RnL (([1] : List Nat)[·]?) [cJ p,iv l,.clos (.func 35) [] [.optr 0 0]] [cJ p,iv l,.clos (.func 35) [] [.optr 1 0]] := RnL.cons (RnV.purI inferInstance) (RnL.cons (RnV.purI inferInstance) (RnL.cons (RnV.clos .nil (RnL.cons (RnV.optr rfl) .nil)) .nil))
 have hlen := sZ p l
 by_cases h : wX p l = true
 ·have hw := v7 p l h hl hs
  have e : sG p l = pS (fN p l.toNat) (fun j => k6 p (iD j l.toNat) 80) (2 ^ l.toNat) := if_pos h
  rw [← e] at hw
  generalize sG p l = U at *
  have h1 := sV U (by omega)
  have h2 := j7 (gV U) (by rw [eJ]; omega)
  have hcl := dL (gV U)
  rw [eJ] at hcl h2
  refine aD Tryz.func10 Tryz.ntmps10 ?_
  repeat' (first|refine aE ?_|fail)
  refine cE (k := 34) (avs := [cJ p,iv l,.clos (.func 35) [] [.optr 1 0]]) (rr' := bv true) [1] 3 [(1,some [.own 3 0 U.length 1]),(3,some (aA cI U))] hw rfl rfl ⟨⟨_,_,rfl,rfl,RnL.purI inferInstance⟩,trivial⟩ rfl harg rfl (RnV.purI inferInstance) rfl ⟨⟨0,_,rfl,rfl,RnL.cons (RnV.own rfl) .nil⟩,⟨2,_,rfl,rfl,RnL.purI inferInstance⟩,trivial⟩ rfl ?_
  repeat' (first|refine aE ?_|fail)
  refine cE (k := 36) (avs := [.own 3 0 U.length 1]) (rr' := .tup []) [3] 1 [(3,some (aA cI (gV U)))] h1 rfl rfl ⟨⟨_,_,rfl,rfl,RnL.purI inferInstance⟩,trivial⟩ rfl (RnL.cons (RnV.own rfl) .nil) rfl (RnV.purI inferInstance) rfl ⟨⟨0,_,rfl,rfl,RnL.purI inferInstance⟩,trivial⟩ rfl ?_
  repeat' (first|refine aE ?_|fail)
  refine cE (k := 37) (avs := [.own 3 0 U.length 1]) (rr' := .own 3 0 (Lib.compact (gV U)).length 1) [3] 1 [(3,some (aA cI (Lib.compact (gV U) ++ List.replicate (U.length - (Lib.compact (gV U)).length) 0)))] h2 rfl rfl ⟨⟨_,_,rfl,rfl,RnL.purI inferInstance⟩,trivial⟩ rfl (RnL.cons (RnV.own rfl) .nil) rfl (RnV.own rfl) rfl ⟨⟨0,_,rfl,rfl,RnL.purI inferInstance⟩,trivial⟩ rfl ?_
  repeat' (first|refine aE ?_|fail)
  refine bD (Le.frzD (d := 4) (i := 3) rfl rfl) ?_
  refine bD (Le.immPre (d := 4) (cs := aA cI (Lib.compact (gV U))) (by rw [← b6]; rfl)) ?_
  exact aC rfl ⟨rfl,(show (sl cI (Lib.compact (gV U))).pur = true from PurV.pf)⟩
 ·have h' : wX p l = false := by simpa using h
  have hw := qT p l h' hl hs
  have e : sG p l = [] := if_neg h
  rw [e]
  have h1 := sV [] (by simp)
  have h2 := j7 (gV []) (by rw [eJ]; simp)
  have hcl := dL (gV [])
  rw [eJ] at hcl h2
  refine aD Tryz.func10 Tryz.ntmps10 ?_
  repeat' (first|refine aE ?_|fail)
  refine cE (k := 34) (avs := [cJ p,iv l,.clos (.func 35) [] [.optr 1 0]]) (rr' := bv false) [1] 1 [(1,some [.v (.slice none 0 0)])] hw rfl rfl ⟨⟨_,_,rfl,rfl,RnL.purI inferInstance⟩,trivial⟩ rfl harg rfl (RnV.purI inferInstance) rfl ⟨⟨0,_,rfl,rfl,RnL.purI inferInstance⟩,trivial⟩ rfl ?_
  repeat' (first|(apply aF;(with_reducible apply a6 (d := 10)))|refine aE ?_|fail)
  refine b7 (fK ?_ (Le.nilCell (i := 1) 1 [] rfl (by decide) (by decide)))
  repeat' (first|refine b8 ?_|fail)
  refine cE (k := 36) (avs := [.own 2 0 0 1]) (rr' := .tup []) [2] 1 [(2,some (aA cI (gV [])))] h1 rfl rfl ⟨⟨_,_,rfl,rfl,RnL.purI inferInstance⟩,trivial⟩ rfl (RnL.cons (RnV.own rfl) .nil) rfl (RnV.purI inferInstance) rfl ⟨⟨0,_,rfl,rfl,RnL.purI inferInstance⟩,trivial⟩ rfl ?_
  repeat' (first|refine aE ?_|fail)
  refine cE (k := 37) (avs := [.own 2 0 0 1]) (rr' := .own 2 0 (Lib.compact (gV [])).length 1) [2] 1 [(2,some (aA cI (Lib.compact (gV []) ++ List.replicate (([] : List Int).length - (Lib.compact (gV [])).length) 0)))] h2 rfl rfl ⟨⟨_,_,rfl,rfl,RnL.purI inferInstance⟩,trivial⟩ rfl (RnL.cons (RnV.own rfl) .nil) rfl (RnV.own rfl) rfl ⟨⟨0,_,rfl,rfl,RnL.purI inferInstance⟩,trivial⟩ rfl ?_
  repeat' (first|refine aE ?_|fail)
  refine bD (Le.frzD (d := 4) (i := 2) rfl rfl) ?_
  refine bD (Le.immPre (d := 4) (cs := aA cI (Lib.compact (gV []))) (by rw [← b6]; rfl)) ?_
  exact aC rfl ⟨rfl,(show (sl cI (Lib.compact (gV []))).pur = true from PurV.pf)⟩
theorem G2 {p:Prg}{l:Int}{j:Nat}(h:wX p l = true) (hb:fN p l.toNat j = true):∃ a:Nat,k6 p (iD j l.toNat) 80 = (a:Int) ∧ a < (bJ p).length:=by
 obtain ⟨hv,h0,h1⟩ := nE.1 h
 have hr : uH p 80 = true := Cu.2 ⟨hv,by decide,by decide⟩
 have w := WG.of_valid hv
 obtain ⟨f⟩ := Flows.ex w
 unfold fN AU at hb
 rw [if_pos hr] at hb
 unfold k6
 rw [if_pos hr]
 simp only [Bool.and_eq_true,decide_eq_true_eq] at hb
 refine ⟨_,rfl,?_⟩
 obtain ⟨c,i,_,_,hc,h3⟩ := ED w (WA.of_valid hv) f (iD j l.toNat) (80 : Int).toNat (by decide) hb
 rcases h3 with ⟨_,h4⟩ | ⟨_,_,h4⟩
 ·rw [← h4]; exact hc
 ·have hw : Wy (bJ p) c (cQ p.types (bJ p) (iD j l.toNat) (80 : Int).toNat).2.2 := h4
  exact hw.lt w.nx
theorem n6 (p:Prg) (l:Int) (hl:p.types.length ≤ 1048576) (hs:aJ p.body ≤ 1048576):PC Tryz.prog 8 [cJ p,iv l] (fun r => r = sl cI (Lib.compact (gV (sG p l)))):=by
 have hr := AE p l hl hs
 by_cases h : wX p l = true
 ·have hba := fun j => G2 (p := p) (l := l) (j := j) h
  obtain ⟨hv,h0,h1⟩ := nE.1 h
  have hpl := (WG.of_valid hv).pl
  rw [h] at hr
  obtain ⟨L,rfl⟩ := Int.eq_ofNat_of_zero_le h0
  rw [Int.toNat_natCast] at hba
  have e : sG p (L : Int) = pS (fN p L) (fun j => k6 p (iD j L) 80) (2 ^ L) := by unfold sG;rw [if_pos h,Int.toNat_natCast]
  rw [e]
  have hfl : ∀ x ∈ pS (fN p L) (fun j => k6 p (iD j L) 80) (2 ^ L), 0 ≤ x ∧ x < ((bJ p).length : Int) := fun x hx => by
   obtain ⟨j,_,h2,h3⟩ := FM.1 hx
   obtain ⟨a,h4,h5⟩ := hba j h2
   rw [← h3]; show 0 ≤ k6 p (iD j L) 80 ∧ k6 p (iD j L) 80 < _; rw [h4]; omega
  rw [← AB hfl]
  have hru := DL L (by omega)
  have hp : 2 ^ L ≤ 2 ^ 6 := Nat.pow_le_pow_right (by decide) (by omega)
  have hpt := kP p hs
  generalize hT : 2 ^ L = T at *
  refine aD Tryz.func8 Tryz.ntmps8 ?_
  repeat' (first|(apply aF;first|(apply aB (k := 26);rfl;exact hr;exact Pur.pf;rfl)|(apply aB (k := 27);rfl;exact hpt;exact Pur.pf;rfl))|refine aE ?_|fail)
  refine aK (σ := Nat × List Bool) [1,2,5] [0] (fun s => [(6,iv (s.1 : Int))]) (fun s => [(1,some (aA cB s.2))]) (fun s => s.1 ≤ T ∧ s.2 = BL (bJ p).length (pS (fN p L) (fun j => k6 p (iD j L) 80) s.1)) (fun s => T - s.1) (0,List.replicate (bJ p).length false) ⟨Nat.zero_le _,(ER _).symm⟩ ?_
  rintro ⟨k,xs⟩ ⟨hk,hxs⟩
  dsimp only at hk hxs
  try dsimp only
  have hxl : xs.length = (bJ p).length := by rw [hxs,k9]
  have hch1 := yY (B := fN p L) (A := fun j => k6 p (iD j L) 80) (k := k)
  have hcs1 := vW (B := fN p L) (A := fun j => k6 p (iD j L) 80) (k := k)
  try dsimp only at hch1
  have hch := uW k L (by omega) (by omega)
  have hwr := BG p (iD k L) hl hs (by rw [nC]; omega)
  change PC _ _ _ (fun r => r = .tup [bv (fN p L k),_]) at hwr
  cases hb : fN p L k with
  | true =>
   obtain ⟨a,ha1,ha2⟩ := hba k hb
   have hst := Fx (L := pS (fN p L) (fun j => k6 p (iD j L) 80) k) ha2
   rw [← hxs,← ha1,← hch1 hb] at hst
   rw [hb,ha1] at hwr
   repeat' (first|(apply aF;first|(apply aB (k := 30);rfl;exact hch;(rfl);rfl)|(apply aB (k := 29);rfl;exact hwr;exact Pur.pf;rfl)|(apply aB (k := 28);rfl;exact hru;(rfl);rfl)|(with_reducible apply a6 (d := 36)))|refine aE ?_|(refine aL ?_ ?_ <;> intro hc hq <;> try (exfalso;omega))|refine cC ?_|fail)
   ·(refine c9 (k + 1, _) (Le.renA [(0, 0), (1, 1)]) ?_ ?_)
    ·exact ⟨by dsimp only;omega,hst⟩
    ·dsimp only;omega
   ·obtain rfl : k = T := by omega
    refine b7 (fK ?_ (Le.frzD (d := 5) (i := 1) rfl rfl))
    rw [← hxl]
    repeat' (first|(apply aF;(apply aB (k := 31);rfl;exact mS xs (by omega);exact Pur.pf;rfl))|refine aE ?_|fail)
    refine aC rfl ⟨?_,Pur.pf⟩
    have hx2 : BL xs.length (pS (fN p L) (fun j => k6 p (iD j L) 80) k) = xs := by rw [hxl]; exact hxs.symm
    rw [hx2]; rfl
  | false =>
   rw [hb] at hwr
   generalize k6 p (iD k L) 80 = a at hwr
   repeat' (first|(apply aF;first|(apply aB (k := 30);rfl;exact hch;(rfl);rfl)|(apply aB (k := 29);rfl;exact hwr;exact Pur.pf;rfl)|(apply aB (k := 28);rfl;exact hru;(rfl);rfl)|(with_reducible apply a6 (d := 36)))|refine aE ?_|(refine aL ?_ ?_ <;> intro hc hq <;> try (exfalso;omega))|refine cC ?_|fail)
   ·(refine c9 (k + 1, xs) (Le.renA [(0, 0), (1, 1)]) ?_ ?_)
    ·exact ⟨by dsimp only;omega,by dsimp only;rw [hcs1 hb]; exact hxs⟩
    ·dsimp only;omega
   ·obtain rfl : k = T := by omega
    refine b7 (fK ?_ (Le.frzD (d := 5) (i := 1) rfl rfl))
    rw [← hxl]
    repeat' (first|(apply aF;(apply aB (k := 31);rfl;exact mS xs (by omega);exact Pur.pf;rfl))|refine aE ?_|fail)
    refine aC rfl ⟨?_,Pur.pf⟩
    have hx2 : BL xs.length (pS (fN p L) (fun j => k6 p (iD j L) 80) k) = xs := by rw [hxl]; exact hxs.symm
    rw [hx2]; rfl
 ·have h2 : wX p l = false := by simpa using h
  rw [h2] at hr
  have e : sG p l = [] := if_neg h
  have e0 : Lib.compact (gV []) = [] := by
   have := dL (gV [])
   rw [eJ] at this
   exact List.eq_nil_of_length_eq_zero (by simpa using this)
  rw [e,e0]
  refine aD Tryz.func8 Tryz.ntmps8 ?_
  repeat' (first|(apply aF;first|(apply aB (k := 26);rfl;exact hr;exact Pur.pf;rfl)|(apply aM (t := _);rfl;rfl;rfl;(rfl);rfl;rfl))|refine aE ?_|fail)
  exact aC (l := [.imm 0 []]) rfl ⟨rfl,rfl⟩
theorem pE (l:List Int) (k:Int) (hk0:0 ≤ k) (hk:k + l.length ≤ 1000000000):TMk Tryz.prog 14 (.ints l) (.ints (rJ k l.length)) k (k + l.length):=by
 refine Cg Tryz.func14 rfl (by simp [Tryz.ntmps14]) (lK _ _) (fun h => ?_) (fun h => ?_)
 ·subst h
  refine aD Tryz.func14 Tryz.ntmps14 ?_
  repeat' (first|refine aE ?_|fail)
  refine aK (σ := Unit) [0,1,5] [] (fun u => []) (fun u => []) (fun u => True) (fun u => 0) () trivial ?_
  rintro u _
  repeat' (first|refine aE ?_|fail)
  refine aC rfl ⟨?_,rfl⟩
  simp [aN]
 ·rw [Tryz.ntmps14]
  repeat' (first|refine aE ?_|fail)
  refine aK (σ := Nat × Int × List Int) [0] [] (fun i => [(5,iv (i.1 : Int)),(1,iv i.2.1)]) (fun i => [(0,some (aA cI i.2.2))]) (fun i => i.1 ≤ l.length ∧ i.2.1 = k + i.1 ∧ i.2.2 = rJ k i.1 ++ l.drop i.1) (fun i => l.length - i.1) (0,k,l) ⟨by omega,by simp,by simp [rJ]⟩ ?_
  rintro ⟨i,z,u⟩ ⟨hi,hz,hu⟩
  dsimp only at hi hz hu ⊢
  have hul : u.length = l.length := by rw [hu,List.length_append,lK,List.length_drop]; omega
  by_cases hil : i < l.length
  ·have e : u.set i z = rJ k (i + 1) ++ l.drop (i + 1) := by
    rw [hu,Cc,List.drop_eq_getElem_cons hil,List.set_append_right _ _ (by rw [lK]; exact Nat.le_refl _),lK,Nat.sub_self,List.set_cons_zero,hz]; simp
   repeat' (first|refine aE ?_|(refine aL ?_ ?_ <;> intro hc hq <;> try (exfalso;omega))|fail)
   rw [e]
   (refine c9 (i + 1,z + 1,rJ k (i + 1) ++ l.drop (i + 1)) (Le.renA []) ?_ ?_)
   ·exact ⟨by dsimp only;omega,by dsimp only;omega,rfl⟩
   ·dsimp only;omega
  ·have hie : i = l.length := by omega
   subst hie
   repeat' (first|refine aE ?_|(refine aL ?_ ?_ <;> intro hc hq <;> try (exfalso;omega))|fail)
   refine ⟨.inl rfl,?_,?_⟩
   ·rw [hz]; rfl
   ·show some (aA cI u) = _
    rw [hu,List.drop_length,List.append_nil]
theorem HM {xs:List SX}{k:Nat}{v:Int}(hk:k < xs.length):eR (aA cT xs) (0 + k * 6 + 0) [iv v] = aA cT (xs.set k (.mk v xs[k]!.1.x xs[k]!.1.y xs[k]!.1.n xs[k]!.1.th xs[k]!.1.el,xs[k]!.2)) := dD hk (by simp) rfl
theorem G3 {xs:List SX}{k:Nat}{v:Int}(hk:k < xs.length):eR (aA cT xs) (0 + k * 6 + 1) [iv v] = aA cT (xs.set k (.mk xs[k]!.1.op v xs[k]!.1.y xs[k]!.1.n xs[k]!.1.th xs[k]!.1.el,xs[k]!.2)) := dD hk (by simp) rfl
theorem GM {xs:List SX}{k:Nat}{v:Int}(hk:k < xs.length):eR (aA cT xs) (0 + k * 6 + 2) [iv v] = aA cT (xs.set k (.mk xs[k]!.1.op xs[k]!.1.x v xs[k]!.1.n xs[k]!.1.th xs[k]!.1.el,xs[k]!.2)) := dD hk (by simp) rfl
theorem Hm {xs:List SX}{k:Nat}{v:Int}(hk:k < xs.length):eR (aA cT xs) (0 + k * 6 + 3) [iv v] = aA cT (xs.set k (.mk xs[k]!.1.op xs[k]!.1.x xs[k]!.1.y v xs[k]!.1.th xs[k]!.1.el,xs[k]!.2)) := dD hk (by simp) rfl
theorem j8 (us rs:List SX) (a:SX):(us ++ a :: rs)[us.length]! = a:=by
 rw [aW _ _ (by simp),List.getElem_append_right (Nat.le_refl _)]; simp
theorem nG (us rs:List SX) (a b:SX):(us ++ a :: rs).set us.length b = us ++ b :: rs:=by
 rw [List.set_append_right _ _ (Nat.le_refl _),Nat.sub_self,List.set_cons_zero]
theorem IY {us rs:List SX}{o x y n v:Int}{th el:List AL.Stmt}{p:(Value × List Nat) × (Value × List Nat)}:eR (aA cT (us ++ (.mk o x y n th el,p) :: rs)) (0 + us.length * 6 + 0) [iv v] = aA cT (us ++ (.mk v x y n th el,p) :: rs):=by
 rw [HM (by simp),j8,nG]; rfl
theorem It {us rs:List SX}{o x y n v:Int}{th el:List AL.Stmt}{p:(Value × List Nat) × (Value × List Nat)}:eR (aA cT (us ++ (.mk o x y n th el,p) :: rs)) (0 + us.length * 6 + 1) [iv v] = aA cT (us ++ (.mk o v y n th el,p) :: rs):=by
 rw [G3 (by simp),j8,nG]; rfl
theorem Iu {us rs:List SX}{o x y n v:Int}{th el:List AL.Stmt}{p:(Value × List Nat) × (Value × List Nat)}:eR (aA cT (us ++ (.mk o x y n th el,p) :: rs)) (0 + us.length * 6 + 2) [iv v] = aA cT (us ++ (.mk o x v n th el,p) :: rs):=by
 rw [GM (by simp),j8,nG]; rfl
theorem IM {us rs:List SX}{o x y n v:Int}{th el:List AL.Stmt}{p:(Value × List Nat) × (Value × List Nat)}:eR (aA cT (us ++ (.mk o x y n th el,p) :: rs)) (0 + us.length * 6 + 3) [iv v] = aA cT (us ++ (.mk o x y v th el,p) :: rs):=by
 rw [Hm (by simp),j8,nG]; rfl
theorem Gw (us rs:List SX) (a b:SX) (h:cT a = cT b):aA cT (us ++ a :: rs) = aA cT (us ++ b :: rs):=by
 rw [← b6,← b6]
 congr 1
 show cT a ++ aA cT rs = cT b ++ aA cT rs
 rw [h]
theorem zA (us rs:List SX) (a:SX):iT (us ++ a :: rs) = iT us ++ ([(.stms a.1.th,a.2.1.1,a.2.1.2)] ++ ([(.stms a.1.el,a.2.2.1,a.2.2.2)] ++ iT rs)):=by
 unfold iT;rw [List.flatMap_append]; simp
theorem w7 (n:Nat) (k:Int) (hk0:0 ≤ k) (hk:k + n ≤ 1000000000):PC Tryz.prog 15 [sl cI (rJ k n),iv k] (fun r => r = iv (k + n)):=by
 have hl := lK k n
 have hg : ∀ i,i < n → (rJ k n)[i]! = k + (i : Int) := fun i hi => v8 _ _ _ hi
 generalize rJ k n = L at *
 refine aD Tryz.func15 Tryz.ntmps15 ?_
 repeat' (first|refine aE ?_|fail)
 refine aK (σ := Nat × Int) [0] [] (fun i => [(5,iv (i.1 : Int)),(1,iv i.2)]) (fun i => []) (fun i => i.1 ≤ n ∧ i.2 = k + i.1) (fun i => n - i.1) (0,k) ⟨by omega,by simp⟩ ?_
 rintro ⟨i,z⟩ ⟨hi,hz⟩
 dsimp only at hi hz ⊢
 by_cases hin : i < n
 ·have hgi := hg i hin
  repeat' (first|refine aE ?_|(refine aL ?_ ?_ <;> intro hc hq <;> try (exfalso;omega))|fail)
  all_goals first
   | (exfalso;omega)
   | ((refine c9 (i + 1, z + 1) (Le.renA []) ?_ ?_)
      ·exact ⟨by dsimp only;omega,by dsimp only;omega⟩
      ·dsimp only;omega)
 ·have hie : i = n := by omega
  subst hie
  repeat' (first|refine aE ?_|(refine aL ?_ ?_ <;> intro hc hq <;> try (exfalso;omega))|fail)
  refine aC rfl ⟨?_,rfl⟩
  simp only [aN,hz]
theorem pQ (p:Prg) (l:Int) (hl:p.types.length ≤ 1048576) (hs:aJ p.body ≤ 1048576):wP Tryz.prog 10 [cJ p,iv l] (fun r E => ∃ a c B,r = .v (.slice a (Lib.compact (gV (sG p l))).length c) ∧ E = [(.ints (Lib.compact (gV (sG p l))),.slice a (Lib.compact (gV (sG p l))).length c,B)]):=by
 have harg : RnL (([1] : List Nat)[·]?) [cJ p,iv l,.clos (.func 35) [] [.optr 0 0]] [cJ p,iv l,.clos (.func 35) [] [.optr 1 0]] := RnL.cons (RnV.purI inferInstance) (RnL.cons (RnV.purI inferInstance) (RnL.cons (RnV.clos .nil (RnL.cons (RnV.optr rfl) .nil)) .nil))
 have hlen := sZ p l
 by_cases h : wX p l = true
 ·have hw := v7 p l h hl hs
  have e : sG p l = pS (fN p l.toNat) (fun j => k6 p (iD j l.toNat) 80) (2 ^ l.toNat) := if_pos h
  rw [← e] at hw
  generalize sG p l = U at *
  have h1 := sV U (by omega)
  have h2 := j7 (gV U) (by rw [eJ]; omega)
  have hcl := dL (gV U)
  rw [eJ] at hcl h2
  (refine eA Tryz.func10 rfl (by simp [Tryz.ntmps10]) ?_; rw [Tryz.ntmps10])
  refine awt_lift ?_
  repeat' (first|refine aE ?_|fail)
  refine cE (k := 34) (avs := [cJ p,iv l,.clos (.func 35) [] [.optr 1 0]]) (rr' := bv true) [1] 3 [(1,some [.own 3 0 U.length 1]),(3,some (aA cI U))] hw rfl rfl ⟨⟨_,_,rfl,rfl,RnL.purI inferInstance⟩,trivial⟩ rfl harg rfl (RnV.purI inferInstance) rfl ⟨⟨0,_,rfl,rfl,RnL.cons (RnV.own rfl) .nil⟩,⟨2,_,rfl,rfl,RnL.purI inferInstance⟩,trivial⟩ rfl ?_
  repeat' (first|refine aE ?_|fail)
  refine cE (k := 36) (avs := [.own 3 0 U.length 1]) (rr' := .tup []) [3] 1 [(3,some (aA cI (gV U)))] h1 rfl rfl ⟨⟨_,_,rfl,rfl,RnL.purI inferInstance⟩,trivial⟩ rfl (RnL.cons (RnV.own rfl) .nil) rfl (RnV.purI inferInstance) rfl ⟨⟨0,_,rfl,rfl,RnL.purI inferInstance⟩,trivial⟩ rfl ?_
  repeat' (first|refine aE ?_|fail)
  refine cE (k := 37) (avs := [.own 3 0 U.length 1]) (rr' := .own 3 0 (Lib.compact (gV U)).length 1) [3] 1 [(3,some (aA cI (Lib.compact (gV U) ++ List.replicate (U.length - (Lib.compact (gV U)).length) 0)))] h2 rfl rfl ⟨⟨_,_,rfl,rfl,RnL.purI inferInstance⟩,trivial⟩ rfl (RnL.cons (RnV.own rfl) .nil) rfl (RnV.own rfl) rfl ⟨⟨0,_,rfl,rfl,RnL.purI inferInstance⟩,trivial⟩ rfl ?_
  repeat' (first|refine aE ?_|fail)
  exact u0 rfl rfl rfl rfl (fun a c B => ⟨a,c,B,rfl,rfl⟩)
 ·have h' : wX p l = false := by simpa using h
  have hw := qT p l h' hl hs
  have e : sG p l = [] := if_neg h
  rw [e]
  have h1 := sV [] (by simp)
  have h2 := j7 (gV []) (by rw [eJ]; simp)
  have hcl := dL (gV [])
  rw [eJ] at hcl h2
  (refine eA Tryz.func10 rfl (by simp [Tryz.ntmps10]) ?_; rw [Tryz.ntmps10])
  refine awt_lift ?_
  repeat' (first|refine aE ?_|fail)
  refine cE (k := 34) (avs := [cJ p,iv l,.clos (.func 35) [] [.optr 1 0]]) (rr' := bv false) [1] 1 [(1,some [.v (.slice none 0 0)])] hw rfl rfl ⟨⟨_,_,rfl,rfl,RnL.purI inferInstance⟩,trivial⟩ rfl harg rfl (RnV.purI inferInstance) rfl ⟨⟨0,_,rfl,rfl,RnL.purI inferInstance⟩,trivial⟩ rfl ?_
  repeat' (first|(apply aF;(with_reducible apply a6 (d := 10)))|refine aE ?_|fail)
  refine b7 (fK ?_ (Le.nilCell (i := 1) 1 [] rfl (by decide) (by decide)))
  repeat' (first|refine b8 ?_|fail)
  refine cE (k := 36) (avs := [.own 2 0 0 1]) (rr' := .tup []) [2] 1 [(2,some (aA cI (gV [])))] h1 rfl rfl ⟨⟨_,_,rfl,rfl,RnL.purI inferInstance⟩,trivial⟩ rfl (RnL.cons (RnV.own rfl) .nil) rfl (RnV.purI inferInstance) rfl ⟨⟨0,_,rfl,rfl,RnL.purI inferInstance⟩,trivial⟩ rfl ?_
  repeat' (first|refine aE ?_|fail)
  refine cE (k := 37) (avs := [.own 2 0 0 1]) (rr' := .own 2 0 (Lib.compact (gV [])).length 1) [2] 1 [(2,some (aA cI (Lib.compact (gV []) ++ List.replicate (([] : List Int).length - (Lib.compact (gV [])).length) 0)))] h2 rfl rfl ⟨⟨_,_,rfl,rfl,RnL.purI inferInstance⟩,trivial⟩ rfl (RnL.cons (RnV.own rfl) .nil) rfl (RnV.own rfl) rfl ⟨⟨0,_,rfl,rfl,RnL.purI inferInstance⟩,trivial⟩ rfl ?_
  repeat' (first|refine aE ?_|fail)
  exact u0 rfl rfl rfl rfl (fun a c B => ⟨a,c,B,rfl,rfl⟩)
theorem nD (us rs:List SX) (a:SX) (j:Nat) (hj:j < 6):0 + us.length * 6 + j + 1 ≤ (aA cT (us ++ a :: rs)).length:=by
 rw [aI cT (e := 6),List.length_append,List.length_cons]; omega
theorem s7 (m:Nat) (hm:m ≤ 1048576) (ih:∀ l (k:Int),aJ l < m → 0 ≤ k → k + 4 * (aJ l:Nat) ≤ 1000000000 → TMk Tryz.prog 39 (.stms l) (.stms (mL k l)) k (k + 4 * (aJ l:Nat))) (l:List AL.Stmt) (k:Int) (hs:aJ l ≤ m) (hk0:0 ≤ k) (hk:k + 4 * (aJ l:Nat) ≤ 1000000000) :
  TMk Tryz.prog 39 (.stms l) (.stms (mL k l)) k (k + 4 * (aJ l : Nat)) := by
 have hlen := dO l
 refine Dn Tryz.func39 rfl (by simp [Tryz.ntmps39]) (fun h => ?_) (fun h xs hxs => ?_)
 ·subst h
  refine ⟨by simp [mL],?_⟩
  refine aD Tryz.func39 Tryz.ntmps39 ?_
  repeat' (first|refine aE ?_|fail)
  refine aK (σ := Unit) [0,1,5] [] (fun u => []) (fun u => []) (fun u => True) (fun u => 0) () trivial ?_
  rintro u _
  repeat' (first|refine aE ?_|fail)
  refine aC rfl ⟨?_,rfl⟩
  simp [aN,aJ]
 ·rw [Tryz.ntmps39]
  have hxl : xs.length = l.length := by have := congrArg List.length hxs;simpa using this
  iterate 1
   refine aR (awt_lift ?_)
   repeat' (first|refine aE ?_|fail)
   show dE _ _ _ _ _ _
  refine aR (aR (awt_lift ?_))
  repeat' (first|refine aE ?_|fail)
  show dE _ _ _ _ _ _
  refine j6 ?_
  refine qN (σ := Nat × Int × List SX) [0] [(0,_)] [] [] (fun i => [(5,iv (i.1 : Int)),(1,iv i.2.1)]) (fun i => [(0,some (aA cT (i.2.2 ++ xs.drop i.1)))]) (fun i => iT (i.2.2 ++ xs.drop i.1)) (fun i => i.1 ≤ l.length ∧ i.2.1 = k + 4 * (aJ (l.take i.1) : Nat) ∧ i.2.2.length = i.1 ∧ i.2.2.map (·.1) = mL k (l.take i.1) ∧ i.2.2.map (·.2) = (xs.take i.1).map (·.2)) (fun i => l.length - i.1) (0,k,[]) ⟨by omega,by simp [aJ],rfl,by simp [mL],by simp⟩ (rfl) rfl rfl (by repeat' (first|exact trivial|refine And.intro rfl ?_)) (by repeat' (first|exact trivial|refine And.intro (.inr rfl) ?_)) ?_
  rintro ⟨i,z,us⟩ ⟨hi,hz,hul,hu1,hu2⟩
  dsimp only at hi hz hul hu1 hu2 ⊢
  have hol : (us ++ xs.drop i).length = l.length := by rw [List.length_append,List.length_drop]; omega
  refine aR (aR (awt_lift ?_))
  repeat' (first|refine aE ?_|fail)
  show dE _ _ _ _ _ _
  refine iZ rfl (fun hb => jA ?_) (fun hb => uM ?_)
  ·show dE _ _ _ _ _ _
   have hil : i < l.length := by have := of_decide_eq_true hb;omega
   have hdr : xs.drop i = xs[i]! :: xs.drop (i + 1) := by rw [List.drop_eq_getElem_cons (by omega),aW _ _ (by omega)]
   have hx1 : xs[i]!.1 = l[i]! := by
    have : (xs.map (·.1))[i]! = l[i]! := by rw [hxs]
    rw [aW _ _ (by simp;omega),List.getElem_map] at this
    rw [aW _ _ (by omega)]; exact this
   have hck := eQ l i hil
   have hct := gE l[i]!
   have hts := oK hil
   have hms := pX hil k
   have hcl : aJ (l.take (i + 1)) ≤ aJ l := by have := jD (l.take (i + 1)) (l.drop (i + 1));rw [List.take_append_drop] at this;omega
   have hsd := zD z l[i]!
   have hcd := gG l[i]!
   have htk : xs.take (i + 1) = xs.take i ++ [xs[i]!] := by rw [aW _ _ (by omega),List.take_succ_eq_append_getElem (by omega)]
   rw [hdr] at hol ⊢
   rw [← hx1] at hck hct hts hms hsd hcd
   generalize hrs : xs.drop (i + 1) = rs at *
   generalize xs[i]! = a at *
   obtain ⟨⟨o,x,y,n,th,el⟩,⟨y4,B4⟩,⟨y5,B5⟩⟩ := a
   have hcd : cM (.mk o x y n th el) = 1 + aJ th + aJ el := gG (.mk o x y n th el)
   have hts : aJ (l.take (i + 1)) = aJ (l.take i) + cM (.mk o x y n th el) := hts
   have hck : cM (.mk o x y n th el) ≤ aJ l := hck
   have hsd : E4 z (.mk o x y n th el) = .mk z (z + 1) (z + 2) (z + 3) (mL (z + 4) th) (mL (z + 4 + 4 * (aJ th : Nat)) el) := zD z (.mk o x y n th el)
   have m1 := ih th (z + 4) (by omega) (by omega) (by omega)
   have m2 := ih el (z + 4 + 4 * (aJ th : Nat)) (by omega) (by omega) (by omega)
   subst hul
   have hol : us.length + (rs.length + 1) = l.length := by rw [← hol]; simp
   refine aR (j6 ?_)
   refine aR (awt_lift ?_)
   repeat' (first|(apply aF;(apply bC;rfl;rfl;rfl;rfl;rfl;exact nD _ _ _ 0 (by decide);exact IY))|refine aE ?_|fail)
   show dE _ _ _ _ _ _
   refine aR (awt_lift ?_)
   repeat' (first|refine aE ?_|fail)
   show dE _ _ _ _ _ _
   refine aR (awt_lift ?_)
   repeat' (first|(apply aF;(apply bC;rfl;rfl;rfl;rfl;rfl;exact nD _ _ _ 1 (by decide);exact It))|refine aE ?_|fail)
   show dE _ _ _ _ _ _
   refine aR (awt_lift ?_)
   repeat' (first|refine aE ?_|fail)
   show dE _ _ _ _ _ _
   refine aR (awt_lift ?_)
   repeat' (first|(apply aF;(apply bC;rfl;rfl;rfl;rfl;rfl;exact nD _ _ _ 2 (by decide);exact Iu))|refine aE ?_|fail)
   show dE _ _ _ _ _ _
   refine aR (awt_lift ?_)
   repeat' (first|refine aE ?_|fail)
   show dE _ _ _ _ _ _
   refine aR (awt_lift ?_)
   repeat' (first|(apply aF;(apply bC;rfl;rfl;rfl;rfl;rfl;exact nD _ _ _ 3 (by decide);exact IM))|refine aE ?_|fail)
   show dE _ _ _ _ _ _
   refine aR (awt_lift ?_)
   repeat' (first|refine aE ?_|fail)
   show dE _ _ _ _ _ _
   have hlt : ∀ b : SX,us.length < (us ++ b :: rs).length := fun b => by simp
   rw [show z + 1 + 1 + 1 + 1 = z + 4 by omega,show z + 1 + 1 + 1 = z + 3 by omega,show z + 1 + 1 = z + 2 by omega]
   refine aR (bQ ?_)
   refine aX (l1 := [_,_,_,_,_,_]) ?_
   repeat' (first|(apply aF;(apply mD;(case hx|hH => rfl);(case hf|hg|hα => infer_instance);(case hk => exact hlt _);(case hc|hN => rfl)))|refine b8 ?_|fail)
   rw [j8]
   refine ⟨rfl,?_⟩
   refine iC (iT us) [(.stms th,y4,B4)] ([(.stms el,y5,B5)] ++ iT rs) (E0' := [(.stms (mL (z + 4) th),y4,B4)]) (zA _ _ _) rfl rfl (m1.e y4 B4) rfl rfl ?_
   refine aX (l1 := [_]) (l2 := []) ?_
   repeat' (first|refine b8 ?_|fail)
   refine ⟨rfl,bG ?_⟩
   show dE _ _ _ _ _ _
   refine bQ ?_
   refine aX (l1 := [_,_,_,_,_,_]) ?_
   repeat' (first|(apply aF;(apply mD;(case hx|hH => rfl);(case hf|hg|hα => infer_instance);(case hk => exact hlt _);(case hc|hN => rfl)))|refine b8 ?_|fail)
   rw [j8]
   refine ⟨rfl,?_⟩
   refine iC (iT us ++ [(.stms (mL (z + 4) th),y4,B4)]) [(.stms el,y5,B5)] (iT rs) (E0' := [(.stms (mL (z + 4 + 4 * (aJ th : Nat)) el),y5,B5)]) (by simp) rfl rfl (m2.e y5 B5) rfl rfl ?_
   refine aX (l1 := [_]) (l2 := []) ?_
   repeat' (first|refine b8 ?_|fail)
   refine ⟨rfl,bG ?_⟩
   show dE _ _ _ _ _ _
   refine awt_lift ?_
   repeat' (first|refine aE ?_|fail)
   rw [Gw us rs _ ((E4 z (.mk o x y n th el),(y4,B4),(y5,B5)) : SX) (by rw [hsd]; rfl)]
   have hE : iT ((us ++ [((E4 z (.mk o x y n th el), (y4, B4), (y5, B5)) : SX)]) ++ rs) = iT us ++ [(.stms (mL (z + 4) th), y4, B4)] ++ ([(.stms (mL (z + 4 + 4 * (aJ th : Nat)) el), y5, B5)] ++ iT rs) := by
    rw [List.append_assoc,List.singleton_append,zA,hsd]; simp [AL.Stmt.th,AL.Stmt.el]
   refine ⟨(us.length + 1,z + 4 + 4 * (aJ th : Nat) + 4 * (aJ el : Nat),us ++ [((E4 z (.mk o x y n th el),(y4,B4),(y5,B5)) : SX)]),⟨by dsimp only;omega,by dsimp only;omega,by simp,?_,?_⟩,by dsimp only;omega,?_,?_⟩
   ·dsimp only
    rw [List.map_append,hu1,hms,hz]; rfl
   ·dsimp only
    rw [List.map_append,hu2,htk,List.map_append]; rfl
   ·dsimp only
    rw [hrs,List.append_assoc,List.singleton_append]
    refine Le.ren [] rfl (by decide) ?_ ?_ <;> repeat' (first|exact trivial|refine And.intro ⟨_,rfl,?_⟩ ?_|refine And.intro ⟨_,_,rfl,rfl,?_⟩ ?_|exact Or.inr rfl|refine Or.inl ⟨?_,(by first|rfl|exact cR _ _)⟩|rfl)
   ·dsimp only
    rw [hrs]; exact hE
  ·have hil : i = l.length := by have := of_decide_eq_false hb; omega
   subst hil
   show dE _ _ _ _ _ _
   rw [show xs.drop l.length = [] from List.drop_of_length_le (by omega),List.append_nil]
   rw [List.take_length] at hz hu1
   refine awt_lift ?_
   repeat' (first|refine aE ?_|fail)
   refine ⟨.inl rfl,?_,us,rfl,?_,hu1,?_⟩
   ·rw [hz]; rfl
   ·rfl
   ·rw [hu2,List.take_of_length_le (by omega)]
theorem Et {P:Program}{N:Nat}{Q:Exit → AS → dU → Prop}{E:dU}{c1 c2:Code}{ts:List (Nat × AV)}{hs:List (Nat × Option (List AV))}{n:Nat}{z:Lo}(d:Nat) (r:AV)
  (h1 : dE P N c1 (z8 (fun s' E' => Le s' ⟨(d,r) :: ts,hs,n,z⟩ ∧ E' = E) Q) E ⟨ts,hs,n,z⟩) (h2 : dE P N c2 Q E ⟨(d,r) :: ts,hs,n,z⟩) : dE P N (.seq c1 c2) Q E ⟨ts,hs,n,z⟩ := by
 refine aR ?_
 intro C a w hN g
 refine wp_mono (h1 C a w hN g) ?_
 rintro e a' w' ⟨s',E',q1,q2⟩
 cases e with
 | normal =>
  obtain ⟨q3,rfl⟩ := q1
  exact ⟨s',E',GV h2 q3,q2⟩
 | _ => exact ⟨s',E',q1,q2⟩
theorem Le.drop2 {ts:List (Nat × AV)}{hs:List (Nat × Option (List AV))}{n d d2:Nat}{r x:AV}{z:Lo}(h:lk ts d2 = none):Le ⟨(d,r) :: (d2,x) :: ts,hs,n,z⟩ ⟨(d,r) :: ts,hs,n,z⟩:=by
 refine Le.of (fun t v ht => ?_) (fun i c h => h) (Nat.le_refl _) rfl
 rw [fI] at ht ⊢
 unfold dB at ht ⊢
 split
 ·rename_i e;rw [if_pos e] at ht;exact ht
 ·rename_i e
  rw [if_neg e] at ht
  rw [fI]
  unfold dB
  split
  ·rename_i e2;subst e2;rw [h] at ht;cases ht
  ·exact ht
theorem vB:∀ (m:Nat),m ≤ 1048576 → ∀ (l:List AL.Stmt) (k:Int),aJ l ≤ m → 0 ≤ k → k + 4 * (aJ l:Nat) ≤ 1000000000 → TMk Tryz.prog 39 (.stms l) (.stms (mL k l)) k (k + 4 * (aJ l:Nat)):=by
 intro m
 induction m using Nat.strongRecOn with
 | ind m ih =>
  intro hm l k hl h0 hk
  exact s7 m hm (fun l' k' h1 h2 h3 => ih (aJ l') h1 (by omega) l' k' (Nat.le_refl _) h2 h3) l k hl h0 hk
theorem p8 (p:Prg) (k:Int) (hl:p.types.length ≤ 1048576) (hs:aJ p.body ≤ 1048576) (hk0:0 ≤ k) (hk:k ≤ 1048576) (a4:Option Addr) (c4:Nat) (B4:List Nat) (a5:Option Addr) (c5:Nat) (B5:List Nat) :
  I4 Tryz.prog 13 [.agg [.v (.slice a4 p.types.length c4), .v (.slice a5 p.body.length c5)], iv k] [(.ints p.types, .slice a4 p.types.length c4, B4), (.stms p.body, .slice a5 p.body.length c5, B5)]
   [(.ints (rJ k p.types.length),.slice a4 p.types.length c4,B4),(.stms (mL (k + p.types.length) p.body),.slice a5 p.body.length c5,B5)] (k + p.types.length + 4 * (aJ p.body : Nat)) := by
 have m1 := pE p.types k hk0 (by omega)
 have m2 := vB _ hs p.body (k + p.types.length) (Nat.le_refl _) (by omega) (by omega)
 refine xK Tryz.func13 rfl (by simp [Tryz.ntmps13]) ?_ rfl
 rw [Tryz.ntmps13]
 refine aR (awt_lift ?_)
 repeat' (first|refine aE ?_|fail)
 show dE _ _ _ _ _ _
 refine aR (bQ ?_)
 refine aX (l1 := [_,_,_]) ?_
 repeat' (first|refine b8 ?_|fail)
 refine ⟨rfl,?_⟩
 refine iC [] [(.ints p.types,.slice a4 p.types.length c4,B4)] [(.stms p.body,.slice a5 p.body.length c5,B5)] (E0' := [(.ints (rJ k p.types.length),.slice a4 p.types.length c4,B4)]) rfl rfl rfl (m1.e _ B4) rfl rfl ?_
 refine aX (l1 := [_]) (l2 := []) ?_
 repeat' (first|refine b8 ?_|fail)
 refine ⟨rfl,bG ?_⟩
 show dE _ _ _ _ _ _
 refine aR (bQ ?_)
 refine aX (l1 := [_,_,_]) ?_
 repeat' (first|refine b8 ?_|fail)
 refine ⟨rfl,?_⟩
 refine iC [(.ints (rJ k p.types.length),.slice a4 p.types.length c4,B4)] [(.stms p.body,.slice a5 p.body.length c5,B5)] [] (E0' := [(.stms (mL (k + p.types.length) p.body),.slice a5 p.body.length c5,B5)]) rfl rfl rfl (m2.e _ B5) rfl rfl ?_
 refine aX (l1 := [_]) (l2 := []) ?_
 repeat' (first|refine b8 ?_|fail)
 refine ⟨rfl,bG ?_⟩
 show dE _ _ _ _ _ _
 refine awt_lift ?_
 repeat' (first|refine aE ?_|fail)
 exact ⟨.inl rfl,rfl,rfl⟩
theorem oW (p:Prg) (n:Int) (hl:p.types.length ≤ 1048576) (hs:aJ p.body ≤ 1048576) (hln:D6 p.body) (q:((p.types.length + aJ p.body:Nat):Int) ≤ 1048576):wP Tryz.prog 3 [cJ p,iv n] (fun r E => r = bv true):=by
 have c0 := mU p 1048576 (by decide) (by decide) (by omega) hln
 rw [kL q] at c0
 have h1 := vX p hl hs
 have h1t := uD p hl hs
 have h2 := vR p hl hs
 have h3t := pQ p n hl hs
 have h3 := oZ p n hl hs
 have h4 := n6 p n hl hs
 have hWl : (Lib.compact (gV (sG p n))).length ≤ 64 := by
  have e1 := dL (gV (sG p n))
  rw [eJ] at e1
  have e2 := sZ p n
  omega
 generalize Lib.compact (gV (sG p n)) = W at *
 have h5 := wK W (by omega)
 have h6 := w7 W.length 1 (by decide) (by omega)
 have m1 := pE W 1 (by decide) (by omega)
 (refine eA Tryz.func3 rfl (by simp [Tryz.ntmps3]) ?_; rw [Tryz.ntmps3])
 iterate 4
  refine aR (awt_lift ?_)
  repeat' (first|(apply aF;(apply aB (k := 7);rfl;exact c0;exact Pur.pf;rfl))|refine aE ?_|(refine aL ?_ ?_ <;> intro hc hq <;> try (exfalso;omega))|fail)
  show dE _ _ _ _ _ _
 refine aR (awt_lift ?_)
 repeat' (first|(apply aF;first|(apply aB (k := 9);rfl;exact h1;exact Pur.pf;rfl)|(apply aB (k := 8);rfl;exact h4;exact Pur.pf;rfl))|refine aE ?_|fail)
 show dE _ _ _ _ _ _
 refine aR (bQ ?_)
 refine aX (l1 := [_]) ?_
 repeat' (first|refine b8 ?_|fail)
 refine ⟨rfl,?_⟩
 refine cV rfl (.cons (.pur PurV.pf) .nil) h1t rfl ?_
 rintro _ _ ⟨a4,d4,B4,a5,d5,B5,rfl,rfl⟩
 refine aX (l1 := [_,_]) (l2 := []) ?_
 repeat' (first|refine b8 ?_|fail)
 refine ⟨rfl,?_⟩
 refine bG ?_
 show dE _ _ _ _ _ _
 refine aR (bQ ?_)
 refine aX (l1 := [_,_]) ?_
 repeat' (first|refine b8 ?_|fail)
 refine ⟨rfl,?_⟩
 refine cV rfl (.cons (.agg (.cons (.tree (t := .ints p.types) (B := B4) (by simp)) (.cons (.tree (t := .stms p.body) (B := B5) (by simp)) .nil))) (.cons (.pur PurV.pf) .nil)) h3t rfl ?_
 rintro _ _ ⟨a0,d0,B0,rfl,rfl⟩
 refine aX (l1 := [_]) (l2 := []) ?_
 repeat' (first|refine b8 ?_|fail)
 refine ⟨rfl,?_⟩
 refine bG ?_
 show dE _ _ _ _ _ _
 refine aR (aR (bQ ?_))
 refine aX (l1 := [_,_]) ?_
 repeat' (first|refine b8 ?_|fail)
 refine ⟨rfl,?_⟩
 refine cV rfl (.cons (.tree (t := .ints W) (B := B0) (by simp)) (.cons (.pur PurV.pf) .nil)) (dR h5 rfl) rfl ?_
 rintro _ _ ⟨rfl,rfl⟩
 rw [List.append_nil]
 refine aX (l1 := [_]) (l2 := []) ?_
 repeat' (first|refine b8 ?_|fail)
 refine ⟨rfl,?_⟩
 refine bG ?_
 show dE _ _ _ _ _ _
 refine iZ rfl (fun hb => by cases hb) (fun _ => jA ?_)
 show dE _ _ _ _ _ _
 refine aR (Et 35 (bv false) (FQ (by kernel_rfl) ?_) ?_)
 ·refine IE (i := 0) (i' := 1) (o := ⟨_, _, _, _, _, _⟩) (o' := ⟨_, _, _, _, _, _⟩) (by kernel_rfl) rfl rfl ?_ ?_
  ·refine eL ?_
   repeat' (first|refine b8 ?_|fail)
   refine ⟨rfl,bG ⟨rfl,?_⟩⟩
   refine qA (i := 1) (o := ⟨_,_,_,_,_,_⟩) (by kernel_rfl) rfl ?_
   refine eL ?_
   repeat' (first|refine b8 ?_|fail)
   refine ⟨rfl,bG ⟨rfl,?_⟩⟩
   refine qA (i := 2) (o := ⟨_,_,_,_,_,_⟩) (by kernel_rfl) rfl ?_
   refine eL ?_
   repeat' (first|(apply aF;(apply aB (k := 9);rfl;exact h1;exact Pur.pf;rfl))|refine b8 ?_|fail)
   refine ⟨rfl,bG ⟨rfl,?_⟩⟩
   refine qA (i := 3) (o := ⟨_,_,_,_,_,_⟩) (by kernel_rfl) rfl ?_
   refine cV rfl (.cons (.agg (.cons (.tree (t := .ints p.types) (B := B4) (by simp)) (.cons (.tree (t := .stms p.body) (B := B5) (by simp)) .nil))) (.cons (.pur PurV.pf) .nil)) (dR h2 rfl) rfl ?_
   rintro _ _ ⟨rfl,rfl⟩
   rw [List.append_nil]
   refine bG ⟨rfl,?_⟩
   refine qA (i := 4) (o := ⟨_,_,_,_,_,_⟩) (by kernel_rfl) rfl ?_
   refine eL ?_
   repeat' (first|refine b8 ?_|fail)
   refine ⟨rfl,bG ⟨rfl,?_⟩⟩
   refine GI ⟨?_,rfl⟩ (by kernel_rfl)
   exact Le.trans (Le.drop2 rfl) (Le.trans (Le.drop2 rfl) (Le.trans (Le.drop2 rfl) (Le.drop2 rfl)))
  ·refine eL ?_
   repeat' (first|refine b8 ?_|fail)
   refine ⟨rfl,bG ⟨rfl,?_⟩⟩
   refine IE (i := 0) (i' := 2) (o := ⟨_,_,_,_,_,_⟩) (o' := ⟨_,_,_,_,_,_⟩) (by kernel_rfl) rfl rfl ?_ ?_
   ·refine eL ?_
    repeat' (first|refine b8 ?_|fail)
    refine ⟨rfl,bG ⟨rfl,?_⟩⟩
    refine qA (i := 2) (o := ⟨_,_,_,_,_,_⟩) (by kernel_rfl) rfl ?_
    refine eL ?_
    repeat' (first|(apply aF;(apply aB (k := 9);rfl;exact h1;exact Pur.pf;rfl))|refine b8 ?_|fail)
    refine ⟨rfl,bG ⟨rfl,?_⟩⟩
    refine qA (i := 3) (o := ⟨_,_,_,_,_,_⟩) (by kernel_rfl) rfl ?_
    refine cV rfl (.cons (.agg (.cons (.tree (t := .ints p.types) (B := B4) (by simp)) (.cons (.tree (t := .stms p.body) (B := B5) (by simp)) .nil))) (.cons (.pur PurV.pf) .nil)) (dR h2 rfl) rfl ?_
    rintro _ _ ⟨rfl,rfl⟩
    rw [List.append_nil]
    refine bG ⟨rfl,?_⟩
    refine qA (i := 4) (o := ⟨_,_,_,_,_,_⟩) (by kernel_rfl) rfl ?_
    refine eL ?_
    repeat' (first|refine b8 ?_|fail)
    refine ⟨rfl,bG ⟨rfl,?_⟩⟩
    refine GI ⟨?_,rfl⟩ (by kernel_rfl)
    exact Le.trans (Le.drop2 rfl) (Le.trans (Le.drop2 rfl) (Le.trans (Le.drop2 rfl) (Le.drop2 rfl)))
   ·refine eL ?_
    repeat' (first|(apply aF;(apply aB (k := 9);rfl;exact h1;exact Pur.pf;rfl))|refine b8 ?_|fail)
    refine ⟨rfl,bG ⟨rfl,?_⟩⟩
    refine qA (i := 0) (o := ⟨_,_,_,_,_,_⟩) (by kernel_rfl) rfl ?_
    refine eL ?_
    repeat' (first|refine b8 ?_|fail)
    refine ⟨rfl,bG ⟨rfl,?_⟩⟩
    refine qA (i := 3) (o := ⟨_,_,_,_,_,_⟩) (by kernel_rfl) rfl ?_
    refine cV rfl (.cons (.agg (.cons (.tree (t := .ints p.types) (B := B4) (by simp)) (.cons (.tree (t := .stms p.body) (B := B5) (by simp)) .nil))) (.cons (.pur PurV.pf) .nil)) (dR h2 rfl) rfl ?_
    rintro _ _ ⟨rfl,rfl⟩
    rw [List.append_nil]
    refine bG ⟨rfl,?_⟩
    refine qA (i := 4) (o := ⟨_,_,_,_,_,_⟩) (by kernel_rfl) rfl ?_
    refine eL ?_
    repeat' (first|refine b8 ?_|fail)
    refine ⟨rfl,bG ⟨rfl,?_⟩⟩
    refine GI ⟨?_,rfl⟩ (by kernel_rfl)
    exact Le.trans (Le.drop2 rfl) (Le.trans (Le.drop2 rfl) (Le.trans (Le.drop2 rfl) (Le.drop2 rfl)))
 refine iZ rfl (fun hb => by cases hb) (fun _ => jA ?_)
 show dE _ _ _ _ _ _
 refine aR (awt_lift ?_)
 repeat' (first|refine aE ?_|fail)
 show dE _ _ _ _ _ _
 refine aR (bQ ?_)
 refine aX (l1 := [_,_]) ?_
 repeat' (first|refine b8 ?_|fail)
 refine ⟨rfl,?_⟩
 refine iC [] [(.ints p.types,.slice a4 p.types.length d4,B4),(.stms p.body,.slice a5 p.body.length d5,B5)] [(.ints W,.slice a0 W.length d0,B0)] rfl rfl rfl (p8 p 1 hl hs (by decide) (by decide) a4 d4 B4 a5 d5 B5) rfl rfl ?_
 refine aX (l1 := [_]) (l2 := []) ?_
 repeat' (first|refine b8 ?_|fail)
 refine ⟨rfl,bG ?_⟩
 show dE _ _ _ _ _ _
 refine aR (aR (bQ ?_))
 refine aX (l1 := [_,_,_,_,_]) ?_
 repeat' (first|refine b8 ?_|fail)
 all_goals try (exfalso;omega)
 refine ⟨rfl,?_⟩
 refine Bt rfl rfl (decide_eq_false (by omega)) ?_
 refine cV rfl (.cons (.tree (t := .ints W) (B := B0) (by simp)) (.cons (.pur PurV.pf) .nil)) (dR h5 rfl) rfl ?_
 rintro _ _ ⟨rfl,rfl⟩
 rw [List.append_nil]
 refine aX (l1 := [_,_]) (l2 := []) ?_
 repeat' (first|refine b8 ?_|fail)
 all_goals try (exfalso;omega)
 refine ⟨rfl,?_⟩
 refine bG ?_
 show dE _ _ _ _ _ _
 refine iZ rfl (fun hb => by cases hb) (fun _ => jA ?_)
 show dE _ _ _ _ _ _
 refine aR (awt_lift ?_)
 repeat' (first|refine aE ?_|fail)
 show dE _ _ _ _ _ _
 refine aR (bQ ?_)
 refine aX (l1 := [_,_]) ?_
 repeat' (first|refine b8 ?_|fail)
 refine ⟨rfl,?_⟩
 refine iC [(.ints (rJ 1 p.types.length),.slice a4 p.types.length d4,B4),(.stms (mL (1 + p.types.length) p.body),.slice a5 p.body.length d5,B5)] [(.ints W,.slice a0 W.length d0,B0)] [] (E0' := [(.ints (rJ 1 W.length),.slice a0 W.length d0,B0)]) rfl rfl rfl (m1.e _ B0) rfl rfl ?_
 refine aX (l1 := [_]) (l2 := []) ?_
 repeat' (first|refine b8 ?_|fail)
 refine ⟨rfl,bG ?_⟩
 show dE _ _ _ _ _ _
 refine aR (awt_lift ?_)
 repeat' (first|refine aE ?_|fail)
 show dE _ _ _ _ _ _
 refine aR (bQ ?_)
 refine aX (l1 := [_,_]) ?_
 repeat' (first|refine b8 ?_|fail)
 refine ⟨rfl,?_⟩
 refine cV rfl (.cons (.tree (t := .ints (rJ 1 W.length)) (B := B0) (by simp)) (.cons (.pur PurV.pf) .nil)) (dR h6 rfl) rfl ?_
 rintro _ _ ⟨rfl,rfl⟩
 rw [List.append_nil]
 refine aX (l1 := [_]) (l2 := []) ?_
 repeat' (first|refine b8 ?_|fail)
 refine ⟨rfl,?_⟩
 refine bG ?_
 show dE _ _ _ _ _ _
 refine aR (awt_lift ?_)
 repeat' (first|refine aE ?_|fail)
 all_goals first|(exfalso;omega)|(exfalso;exact (by assumption : ¬ True) trivial)|(show dE _ _ _ _ _ _)
 refine aR (awt_lift ?_)
 repeat' (first|refine aE ?_|(refine aL ?_ ?_ <;> intro hc hq <;> try (exfalso;omega))|fail)
 all_goals first|(exfalso;omega)|(exfalso;exact (by assumption : ¬ True) trivial)|(show dE _ _ _ _ _ _)
 refine aR (awt_lift ?_)
 repeat' (first|(apply aF;first|(apply aB (k := 9);rfl;exact h1;exact Pur.pf;rfl)|(apply aB (k := 10);rfl;exact h3;exact Pur.pf;rfl))|refine aE ?_|fail)
 show dE _ _ _ _ _ _
 refine aR (awt_lift ?_)
 repeat' (first|(apply aF;(apply aB (k := 11);rfl;exact h5;exact Pur.pf;rfl))|refine aE ?_|fail)
 show dE _ _ _ _ _ _
 refine aR (awt_lift ?_)
 repeat' (first|refine aE ?_|fail)
 show dE _ _ _ _ _ _
 refine aR (bQ ?_)
 refine aX (l1 := [_,_]) ?_
 repeat' (first|refine b8 ?_|fail)
 refine ⟨rfl,?_⟩
 refine cV rfl (.cons (.tree (t := .ints (rJ 1 W.length)) (B := B0) (by simp)) (.cons (.pur PurV.pf) .nil)) (dR h6 rfl) rfl ?_
 rintro _ _ ⟨rfl,rfl⟩
 rw [List.append_nil]
 refine aX (l1 := [_]) (l2 := []) ?_
 repeat' (first|refine b8 ?_|fail)
 refine ⟨rfl,?_⟩
 refine bG ?_
 show dE _ _ _ _ _ _
 refine aR (awt_lift ?_)
 repeat' (first|refine aE ?_|fail)
 all_goals first|(exfalso;omega)|(exfalso;exact (by assumption : ¬ True) trivial)|(show dE _ _ _ _ _ _)
 refine aR (awt_lift ?_)
 repeat' (first|refine aE ?_|fail)
 all_goals first|(exfalso;omega)|(exfalso;exact (by assumption : ¬ True) trivial)|(show dE _ _ _ _ _ _)
 refine awt_lift ?_
 repeat' (first|refine aE ?_|fail)
 exact r9 (l := [bv true]) rfl rfl rfl rfl
end Go.Proofs.YtgkalkgplcdnkaaGreat
namespace Go.Proofs.YtgkalkgplcdnkaaGreat
open Go.AL Go.ChangeShapes Go.WideShapes Go.ChangeAt Go.RowKit
theorem tN {P:Program}{k:FuncId}{avs:List AV}(h:wP P k avs (fun r E => r = bv true)){W:World}{vs:List Value}(hv:RdV W (fun _ => False) (fun _ => none) avs vs) :
  Calls P k vs.toArray W fun e W' => e = .returned (.bool true) ∧ Below W.heap.size W W' := by
 refine (h W (fun _ => False) vs (fun _ q => q.elim) hv).mono ?_
 rintro e W' ⟨v,r,E,rfl,rfl,_,h4,f,_,_⟩
 simp only [Rd] at h4
 subst h4
 exact ⟨rfl,f.os,f.tape,f.output,f.size,fun b hb => f.block b hb (fun h => h)⟩
theorem DD {P:Program}{k:FuncId}{avs:List AV}(h:PC P k avs (fun r => r = bv true)):wP P k avs (fun r E => r = bv true):=by
 intro w bad vals hb hv
 refine (dR h rfl w bad vals hb hv).mono ?_
 rintro e w' ⟨v,r,E,h1,⟨h2,_⟩,h3⟩
 exact ⟨v,r,E,h1,h2,h3⟩
end Go.Proofs.YtgkalkgplcdnkaaGreat
namespace Go.Proofs.YtgkalkgplcdnkaaGreat
open Go.AL Go.RowKit
theorem jC (p:Prg) (n:Int) (hl:p.types.length ≤ 9223372036854775807) (hln:D6 p.body):wP Tryz.prog 3 [cJ p,iv n] (fun r E => r = bv true):=by
 have c0 := mU p 1048576 (by decide) (by decide) hl hln
 by_cases q : ((p.types.length + aJ p.body : Nat) : Int) ≤ 1048576
 ·exact oW p n (by omega) (by omega) hln q
 ·rw [iA q] at c0
  refine DD ?_
  refine aD Tryz.func3 Tryz.ntmps3 ?_
  repeat' (first|(apply aF;(apply aB (k := 7);rfl;exact c0;exact Pur.pf;rfl))|refine aE ?_|fail)
  all_goals first
   | exact aC rfl ⟨rfl,rfl⟩
   | (exfalso;omega)
end Go.Proofs.YtgkalkgplcdnkaaGreat
