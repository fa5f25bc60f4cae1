/-
 A part of the proofs over this program: rules and contracts of its functions (the contracts).
-/
import Derived.Test.YtahdccneecdmmaaGreatN1B03
set_option linter.unusedVariables false
set_option linter.unusedSimpArgs false
set_option maxHeartbeats 8000000
set_option maxRecDepth 4000
attribute [local irreducible] Go.AL.RW Go.AL.AW Go.AL.Stop
namespace Go.Proofs.YtahdccneecdmmaaGreat
open Go.AL Go.RowKit
variable {N : Nat} {Q : Exit → AS → Prop} {all : Array Oper} {rest : List Oper} {tsl : List (Nat × AV)} {hsl : List (Nat × Option (List AV))} {nidl : Nat} {z0 : Lo} {md : Md} {d : Nat} {ty : TypeId} {pos : String} {af : Array Edge} {tys : Array TypeId}
theorem EO (ts:List Int) (bd:List AL.Stmt) (pts:List Pnt) (i:Int) (f:List Nat) (w:WG ts pts) (B:WA ts pts) (hi:0 ≤ i ∧ i < pts.length) (hf:f.length = 6) (hs:∀ z:Nat,Sm f[z]!) :
  PC Tryz.prog 75 [iv i,.agg (flat cW f),.iptr [aG ts bd pts]] (fun r => r = .v (.int .u64 (Aa pts i.toNat f : Nat))) := by
 have hpl := w.pl
 have htl := w.tl
 have hin : i.toNat < pts.length := by omega
 have hy := w.y i.toNat hin
 have hn := (B.a i.toNat hin).n
 have e1 : pts[i.toNat]!.op = 1 → Aa pts i.toNat f = 2 ^ pts[i.toNat]!.n.toNat := fun h => by unfold Aa;rw [if_pos h]
 have e3 : pts[i.toNat]!.op = 3 → Aa pts i.toNat f = f[pts[i.toNat]!.y.toNat]! := fun h => by unfold Aa;rw [if_neg (by omega),if_pos h]
 have e6 : pts[i.toNat]!.op = 6 → Aa pts i.toNat f = 1023 := fun h => by unfold Aa;rw [if_neg (by omega),if_neg (by omega),if_pos h]
 have e0 : ¬ pts[i.toNat]!.op = 1 → ¬ pts[i.toNat]!.op = 3 → ¬ pts[i.toNat]!.op = 6 → Aa pts i.toNat f = 0 := fun h h2 h3 => by unfold Aa;rw [if_neg h,if_neg h2,if_neg h3]
 refine aC Tryz.func75 Tryz.ntmps75 ?_
 repeat' (first|(apply aD;(apply yN;rfl;rfl;infer_instance;omega;rfl;(case' kk => intro hsm)))|refine aE ?_|(refine aM ?_ ?_ <;> intro hc hq <;> try (exfalso;omega))|fail)
 ·refine aB rfl ⟨?_,rfl⟩; simp only [aP]; rw [e1 (by assumption)]
 ·refine aB rfl ⟨?_,rfl⟩; simp only [aP]; rw [e3 (by assumption)]
 ·refine aB rfl ⟨?_,rfl⟩; simp only [aP]; rw [e6 (by assumption)]; rfl
 ·refine aB rfl ⟨?_,rfl⟩; simp only [aP]; rw [e0 (by assumption) (by assumption) (by assumption)]; rfl
theorem AI (ts:List Int) (bd:List AL.Stmt) (pts:List Pnt) (A:List Nat) (w:WG ts pts) (B:WA ts pts) (hA:GoodU ts pts A):PC Tryz.prog 74 [aG ts bd pts,.clos (.func 75) [] [.iptr [aG ts bd pts]]] (fun r => r = .imm pts.length (flat cW A)):=by
 have hpl := w.pl
 have hp0 := w.p0
 have htl := w.tl
 refine aC Tryz.func74 Tryz.ntmps74 ?_
 repeat' (first|refine aE ?_|fail)
 refine aL (σ := List Nat × Bool) [0,1,5] [] (fun s => [(6,bv s.2)]) (fun s => [(0,some (flat cW s.1))]) (fun s => SU ts pts s.1 ∧ (s.2 = false → rT ts pts s.1)) (fun s => 2 * jS (s.1.map (fun x => 2 ^ 10 - x)) + s.2.toNat) (List.replicate (pts.length * 6) 0,true) ⟨Gp,fun h => by cases h⟩ ?_
 rintro ⟨s,b⟩ ⟨hS,hC⟩
 dsimp only at hS hC ⊢
 repeat' (first|refine aE ?_|(refine aM ?_ ?_ <;> intro hc hq <;> try (exfalso;omega))|fail)
 ·refine aL (σ := Nat × (List Nat × Bool)) [0, 1, 5, 27, 28] [] (fun k => [(29, iv (k.1 : Int)), (6, bv k.2.2)]) (fun k => [(0, some (flat cW k.2.1))]) (fun k => k.1 ≤ pts.length ∧ k.2 = (List.range k.1).foldl (vX ts pts) (s, false) ∧ SU ts pts k.2.1) (fun k => pts.length - k.1) (0, (s, false)) ⟨by omega, rfl, hS⟩ ?_
  rintro ⟨i,u,c⟩ ⟨hk,hf,hS2⟩
  dsimp only at hk hf hS2 ⊢
  have hul := hS2.1
  have hsm : ∀ z : Nat,Sm u[z]! := FT w hS2
  by_cases hin : i < pts.length
  ·have hnl := w.nl i hin
   have hst := w.set i hin
   have hrl : ((u.drop (i * 6)).take 6).length = 6 := iI hul hin
   have hrs : ∀ z : Nat, Sm ((u.drop (i * 6)).take 6)[z]! := by
    intro z
    by_cases hz : z < 6
    ·have := kP hul hin hz;unfold gP at this;rw [this]; exact hsm _
    ·rw [getElem!_neg _ z (by rw [hrl]; exact hz)]; exact ⟨by decide⟩
   have hbl := bW (wS ts pts[i]! [2])
   have hT : Sm (wS ts pts[i]! [2]) := cA (by omega)
   repeat' (first|(apply aD;(first|(apply aA (k := 120);rfl;(apply fK <;> (assumption));(rfl);rfl)|(apply aA (k := 142);rfl;(apply Ek <;> (assumption));exact Pur.pf;rfl)))|refine aE ?_|(refine aM ?_ ?_ <;> intro hc hq <;> try (exfalso;omega))|fail)
   have hcl := EO ts bd pts (i : Int) ((u.drop (i * 6)).take 6) w B ⟨by omega,by omega⟩ hrl hrs
   rw [Int.toNat_natCast] at hcl
   refine aL (σ := Nat × List Nat) [0,1,5,6,7,8,9,27,28,29,41,42] [0,1] (fun k => [(43,iv (k.1 : Int))]) (fun k => [(2,some (flat cW k.2))]) (fun k => k.1 ≤ (bF (wS ts pts[i]! [2])).length ∧ k.2 = lK ((bF (wS ts pts[i]! [2])).take k.1) ((u.drop (i * 6)).take 6) ∧ k.2.length = 6) (fun k => (bF (wS ts pts[i]! [2])).length - k.1) (0,(u.drop (i * 6)).take 6) ⟨Nat.zero_le _,rfl,hrl⟩ ?_
   rintro ⟨k,g⟩ ⟨hkk,hg,hgl⟩
   dsimp only at hkk hg hgl ⊢
   have hbb : k < (bF (wS ts pts[i]! [2])).length → 0 ≤ (bF (wS ts pts[i]! [2]))[k]! ∧ (bF (wS ts pts[i]! [2]))[k]! < ts.length := fun h => CU (pI (fun v => decide (bB ts pts[i]! v ∈ [2])) ts.length) h
   by_cases hkn : k < (bF (wS ts pts[i]! [2])).length
   ·have hbk := hbb hkn
    repeat' (first|refine aE ?_|(refine aM ?_ ?_ <;> intro hc hq <;> try (exfalso;omega))|fail)
    (refine bX (k + 1,g.set ((bF (wS ts pts[i]! [2]))[k]!).toNat 0) (Le.renA [(0,0),(1,1),(2,2)]) ?_ ?_)
    ·dsimp only
     exact ⟨by omega,by rw [zW hkn,← hg],by simpa using hgl⟩
    ·dsimp only;omega
   have hg' : g = lK (bF (wS ts pts[i]! [2])) ((u.drop (i * 6)).take 6) := by rw [hg,List.take_of_length_le (by omega)]
   have ha1 : 0 ≤ bC pts[i]! → g.set (bC pts[i]!).toNat (Aa pts i ((u.drop (i * 6)).take 6)) = sP ts pts i (gP u i) := fun h => by unfold sP gP;rw [if_neg (by omega),hg']
   have ha0 : bC pts[i]! < 0 → g = sP ts pts i (gP u i) := fun h => by unfold sP gP;rw [if_pos h,hg']
   obtain ⟨a,hcf⟩ : ∃ a,a = sP ts pts i (gP u i) := ⟨_,rfl⟩
   rw [← hcf] at ha1 ha0
   have hcl6 : a.length = 6 := by rw [hcf,Ec]; exact hrl
   have hasnd : ∀ k,iG pts i k → ∀ v,v < 6 → HU ts pts k v a[v]! := fun k e v hv => by rw [hcf]; exact zS w B hS2 e hv
   repeat' (first|(apply aD;first|(apply aA (k := 143);rfl;(apply Gi);exact Pur.pf;rfl)|(apply iR;rfl;rfl;infer_instance;rfl;(apply hcl);exact Pur.pf;rfl))|refine aE ?_|(refine aM ?_ ?_ <;> intro hc hq <;> try (exfalso;omega))|fail)
   all_goals
    first
     | rw [ha1 (by assumption)]
     | rw [ha0 (by omega)]
   all_goals
    refine aL (σ := Nat × (List Nat × Bool)) [0,1,5,9,27,28,29,64,65] [1,2] (fun j => [(66,iv (j.1 : Int)),(6,bv j.2.2)]) (fun j => [(0,some (flat cW j.2.1))]) (fun j => j.1 ≤ pts[i]!.next.length ∧ j.2 = ((De pts i).take j.1).foldl (pA a) (u,c) ∧ SU ts pts j.2.1) (fun j => pts[i]!.next.length - j.1) (0,(u,c)) ⟨by omega,rfl,hS2⟩ ?_
    rintro ⟨j,u2,c2⟩ ⟨hj,hf2,hS3⟩
    dsimp only at hj hf2 hS3 ⊢
    have hul2 := hS3.1
    by_cases hjn : j < pts[i]!.next.length
    ·have hzz : 0 ≤ pts[i]!.next[j]! ∧ pts[i]!.next[j]! < pts.length := w.nx i hin _ (aV _ _ hjn)
     have hed : iG pts i (pts[i]!.next[j]!).toNat := ⟨hin,by rw [Int.toNat_of_nonneg hzz.1]; exact aV _ _ hjn⟩
     have hap := hasnd _ hed
     have hasm : ∀ z : Nat, Sm a[z]! := by
      intro z
      by_cases hz : z < 6
      ·exact ⟨Nat.lt_of_lt_of_le (hap z hz).1 (Nat.pow_le_pow_right (by decide) (by decide))⟩
      ·rw [getElem!_neg a z (by rw [hcl6]; exact hz)]; exact ⟨by decide⟩
     repeat' (first|refine aE ?_|(refine aM ?_ ?_ <;> intro hc hq <;> try (exfalso;omega))|fail)
     refine aL (σ := Nat × (List Nat × Bool)) [0,1,5,9,14,27,28,29,64,65,66,70] [1,2] (fun v => [(71,iv (v.1 : Int)),(6,bv v.2.2)]) (fun v => [(0,some (flat cW v.2.1))]) (fun v => v.1 ≤ 6 ∧ v.2 = (List.range v.1).foldl (lQ a (pts[i]!.next[j]!).toNat) (u2,c2) ∧ SU ts pts v.2.1) (fun v => 6 - v.1) (0,(u2,c2)) ⟨by omega,rfl,hS3⟩ ?_
     rintro ⟨v,u3,c3⟩ ⟨hv,hf3,hS4⟩
     dsimp only at hv hf3 hS4 ⊢
     have hul3 := hS4.1
     have hsm3 : ∀ z : Nat,Sm u3[z]! := FT w hS4
     by_cases hvn : v < 6
     ·have hlaw := vP (mI w hed) hap u3 c3 v hvn hS4
      repeat' (first|refine aE ?_|(refine aM ?_ ?_ <;> intro hc hq <;> try (exfalso;omega))|refine cE ?_|fail)
      ·have hne : xI u3[(pts[i]!.next[j]!).toNat * 6 + v]! a[v]! ≠ u3[(pts[i]!.next[j]!).toNat * 6 + v]! := fun h => hq (congrArg Int.ofNat h)
       have e1 : lQ a (pts[i]!.next[j]!).toNat (u3,c3) v = (u3.set ((pts[i]!.next[j]!).toNat * 6 + v) (xI u3[(pts[i]!.next[j]!).toNat * 6 + v]! a[v]!),true) := Hd hne
       rw [e1] at hlaw
       (refine bX (v + 1,(_,true)) (Le.renA [(0,0),(1,1),(2,2)]) ?_ ?_)
       ·dsimp only
        refine ⟨by omega,?_,hlaw.1⟩
        rw [p8,← hf3,e1]; rfl
       ·dsimp only;omega
      ·have hne : xI u3[(pts[i]!.next[j]!).toNat * 6 + v]! a[v]! = u3[(pts[i]!.next[j]!).toNat * 6 + v]! := Int.ofNat.inj hq
       have e1 : lQ a (pts[i]!.next[j]!).toNat (u3,c3) v = (u3,c3) := Hv hne
       (refine bX (v + 1,(u3,c3)) (Le.renA [(0,0),(1,1),(2,2)]) ?_ ?_)
       ·dsimp only
        refine ⟨by omega,?_,hS4⟩
        rw [p8,← hf3,e1]
       ·dsimp only;omega
     ·have hv6 : v = 6 := by omega
      subst hv6
      repeat' (first|refine aE ?_|fail)
      (refine bX (j + 1,(u3,c3)) (Le.renA [(0,0),(1,1),(2,2)]) ?_ ?_)
      ·dsimp only
       refine ⟨by omega,?_,hS4⟩
       rw [AU hjn,← hf2,hf3]; rfl
      ·dsimp only;omega
    ·repeat' (first | refine aE ?_ | (refine aM ?_ ?_ <;> intro hc hq <;> try (exfalso; omega))|fail)
     (refine bX (i + 1,(u2,c2)) (Le.renA [(0,0)]) ?_ ?_)
     ·dsimp only
      refine ⟨by omega,?_,hS3⟩
      rw [gS,← hf,hf2,List.take_of_length_le (by rw [yS]; omega),hcf]; rfl
     ·dsimp only;omega
  ·repeat' (first | refine aE ?_ | (refine aM ?_ ?_ <;> intro hc hq <;> try (exfalso; omega))|fail)
   have law := Da w B s false hS
   have hfull : (u, c) = C4 ts pts (s, false) := by
    rw [hf,show i = pts.length by omega]; rfl
   rw [← hfull] at law
   (refine bX (u,c) (Le.renA [(0,0)]) ?_ ?_)
   ·dsimp only
    refine ⟨hS2,fun h => ?_⟩
    rcases law.2 with ⟨e1,e2⟩ | ⟨e1,_⟩
    ·cases e1;exact e2
    ·dsimp only at e1;rw [h] at e1;cases e1
   ·dsimp only
    have hb : b = true := by assumption
    subst hb
    rcases law.2 with ⟨e1,e2⟩ | ⟨e1,e2⟩
    ·cases e1;simp
    ·dsimp only at e1 e2;subst e1;omega
 ·have hb : b = false := by assumption
  refine aS (Le.frzD (d := 4) (i := 0) rfl rfl) ?_
  refine aB rfl ⟨?_,(by (exact bZ _ _))⟩
  simp only [aP]
  rw [AQ hA (Dm w B hS (hC hb))]
theorem Ii {A:List Nat}{q k:Nat}(hk:0 ≤ k) (h:q + k < A.length):List.drop (k * 1) (flat cW (List.drop q A)) = [AV.v (.int .u64 (A[q + k]!:Nat))] ++ flat cW (List.drop (q + k + 1) A):=by
 have e : ∀ xs : List Nat, flat cW xs = xs.map fun a => AV.v (.int .u64 (a : Nat)) := fun xs => by
  induction xs with
  | nil => rfl
  | cons x xs ih => show cW x ++ flat cW xs = _; rw [ih]; rfl
 rw [e,e,Nat.mul_one,← List.map_drop,List.drop_drop,List.drop_eq_getElem_cons h,aY _ _ h]
 rfl
theorem BM {ts:List Int}{pts:List Pnt}(B:WA ts pts){a:Nat × Nat × Nat}(h:Nm ts pts a):a.2.2 < 10:=by
 induction h with
 | @base a h =>
  obtain ⟨j,e,_,h⟩ := h
  rcases h with ⟨h1,h2⟩ | ⟨_,h⟩
  ·have := (B.a j e.1).n (.inl h1);omega
  ·omega
 | @step a b _ r ih => rw [r.1]; exact ih
theorem uL (p:Prg) (i v:Int) (hl:p.types.length ≤ 1048576) (hs:aK p.body ≤ 1048576) (h:¬ nV p i):PC Tryz.prog 23 [bE p,iv i,iv v] (fun r => r = sl cI []):=by
 have hg := A1 p i hl hs h
 refine aC Tryz.func23 Tryz.ntmps23 ?_
 repeat' (first|(apply aD;first|(apply aA (k := 72);rfl;exact hg;exact Pur.pf;rfl)|(apply aJ (t := _);rfl;rfl;rfl;exact (rfl:_=some [_]);rfl;rfl))|refine aE ?_|fail)
 (refine aS (Le.nilImm (d := 6) rfl) ?_; refine aB rfl ?_)
 exact ⟨rfl,rfl⟩
theorem vS (p:Prg) (i v:Int) (hl:p.types.length ≤ 1048576) (hs:aK p.body ≤ 1048576) (h:nV p i) (hv:¬ (0 ≤ v ∧ v < p.types.length ∧ p.types[v.toNat]! = 1)):PC Tryz.prog 23 [bE p,iv i,iv v] (fun r => r = sl cI []):=by
 have hg := pL p i hl hs h
 have hiv := yR p.types p.body (aR p) v hl
 refine aC Tryz.func23 Tryz.ntmps23 ?_
 repeat' (first|(apply aD;first|(apply aA (k := 72);rfl;exact hg;exact Pur.pf;rfl)|(apply aA (k := 73);rfl;exact hiv;exact Pur.pf;rfl)|(apply aJ (t := _);rfl;rfl;rfl;exact (rfl:_=some [_]);rfl;rfl))|refine aE ?_|(refine aM ?_ ?_ <;> intro hc hq <;> try (exfalso;omega))|(refine bS ?_ ?_ <;> intro hg hq <;> try (exfalso;omega))|fail)
 all_goals first
  | ((refine aS (Le.nilImm (d := 6) rfl) ?_; refine aB rfl ?_)
     exact ⟨rfl,rfl⟩)
  | (exfalso;omega)
theorem oF (p:Prg) (i v:Int) (A:List Nat) (hl:p.types.length ≤ 1048576) (hs:aK p.body ≤ 1048576) (h:nV p i) (hv:0 ≤ v ∧ v < p.types.length ∧ p.types[v.toNat]! = 1) (hA:GoodU p.types (aR p) A):PC Tryz.prog 23 [bE p,iv i,iv v] (fun r => r = sl cI (bF A[i.toNat * 6 + v.toNat]!)):=by
 have hg := pL p i hl hs h
 have hiv := yR p.types p.body (aR p) v hl
 have w := WG.of_valid h.1
 have B := WA.of_valid h.1
 have htr := AI p.types p.body (aR p) A w B hA
 have hpl := w.pl
 have htl := w.tl
 have hi : 0 ≤ i ∧ i < (aR p).length := h.2
 have hAl := hA.1
 have hsm : A[i.toNat * 6 + v.toNat]! < 2 ^ 62 := Nat.lt_of_lt_of_le (Nat.lt_pow_two_of_testBit _ (n := 10) fun k hk => by
  rw [Bool.eq_false_iff]; intro q
  have := BM B ((hA.2 i.toNat v.toNat (by omega) (by omega) k).1 q)
  dsimp only at this;omega) (by decide)
 refine aC Tryz.func23 Tryz.ntmps23 ?_
 repeat' (first|(apply aD;first|(apply nN;rfl;rfl;rfl)|(apply aA (k := 72);rfl;exact hg;exact Pur.pf;rfl)|(apply aA (k := 73);rfl;exact hiv;exact Pur.pf;rfl)|(apply aA (k := 74);rfl;exact htr;exact Pur.pf;rfl)|(with_reducible apply a5 (d := 44))|(apply aJ (t := _);rfl;rfl;rfl;exact (rfl:_=some [_]);rfl;rfl))|refine aE ?_|(refine aM ?_ ?_ <;> intro hc hq <;> try (exfalso;omega))|(refine bS ?_ ?_ <;> intro hg hq <;> try (exfalso;omega))|fail)
 refine b8 ?_
 rw [Ii (by omega) (by rw [hAl]; omega)]
 repeat' (first|(apply aD;(apply aA (k := 76);rfl;exact wE _ ⟨hsm⟩;(rfl);rfl))|refine aE ?_|fail)
 exact aB rfl ⟨rfl,(by (exact bZ _ _))⟩
theorem Ay (p:Prg) (i v:Int) (L:List Int) (h:PC Tryz.prog 23 [bE p,iv i,iv v] (fun r => r = sl cI L)) (hl:L.length ≤ 1000):PC Tryz.prog 24 [bE p,iv i,iv v] (fun r => r = .tup [iv (if L.length = 1 then L[0]! else 0),bv (decide (L.length = 1))]):=by
 refine aC Tryz.func24 Tryz.ntmps24 ?_
 repeat' (first|(apply aD;(apply aA (k := 23);rfl;exact h;exact Pur.pf;rfl))|refine aE ?_|(refine aM ?_ ?_ <;> intro hc hq <;> try (exfalso;omega))|fail)
 all_goals first
  | (rw [if_pos (by omega),decide_eq_true (by omega)]; exact aB rfl ⟨rfl,rfl⟩)
  | (rw [if_neg (by omega),decide_eq_false (by omega)]; exact aB rfl ⟨rfl,rfl⟩)
  | (exfalso;omega)
theorem A4 (p:Prg) (i v:Int) (L:List Int) (h:PC Tryz.prog 26 [bE p,iv i,iv v] (fun r => r = sl cI L)) (hl:L.length ≤ 1000):PC Tryz.prog 25 [bE p,iv i,iv v] (fun r => r = .tup [iv (if L.length = 1 then L[0]! else 0),bv (decide (L.length = 1))]):=by
 refine aC Tryz.func25 Tryz.ntmps25 ?_
 repeat' (first|(apply aD;(apply aA (k := 26);rfl;exact h;exact Pur.pf;rfl))|refine aE ?_|(refine aM ?_ ?_ <;> intro hc hq <;> try (exfalso;omega))|fail)
 all_goals first
  | (rw [if_pos (by omega),decide_eq_true (by omega)]; exact aB rfl ⟨rfl,rfl⟩)
  | (rw [if_neg (by omega),decide_eq_false (by omega)]; exact aB rfl ⟨rfl,rfl⟩)
  | (exfalso;omega)
theorem DH (bs:List UInt8) (p:Nat) (hb:bs.length ≤ 2000) (hp:p ≤ 900):MC Tryz.prog 206 [.optr 0 0] [(0,some (cK bs p))] 1 (fun x:Prg × Nat => aK x.1.body ≤ 20000 ∧ x.1.types.length ≤ 1000 ∧ x.2 ≤ 3000) (fun x => bE x.1) (fun x => [(0,some (cK bs x.2))]):=by
 have h8 := cR bs (p + 1) 8
 refine aQ Tryz.func206 Tryz.ntmps206 ?_
 repeat' (first|(apply aD;first|(apply cV (k := 165);rfl;exact pR;(rfl);rfl;(rintro _ ⟨ys,rfl,hyl,hsz⟩ _))|(apply eE (k := 94);exact B3 bs (p + 1) hb (by omega);rfl;rfl;rfl;rfl;rfl;(rintro ⟨q,p1⟩ ⟨hq1,hq2,hq3⟩);(dsimp only at hq1 hq2 hq3))|(apply eE (k := 93);exact oI bs (p + 1 + 1) q hb (by omega) (by omega) (by omega);rfl;exact Pur.pf;rfl;rfl;rfl;(rintro ⟨q2,p2⟩ ⟨hr1,hr2,hr3⟩);(dsimp only at hr1 hr2 hr3))|(apply eE (k := 93);exact oI bs p1 q hb (by omega) (by omega) (by omega);rfl;exact Pur.pf;rfl;rfl;rfl;(rintro ⟨q2,p2⟩ ⟨hr1,hr2,hr3⟩);(dsimp only at hr1 hr2 hr3))|(apply cV (k := 166);rfl;exact iT _ (Nat.le_trans (hsz _) (by decide));(rfl);rfl;(rintro _ ⟨q,b,rfl,hqc,hqt⟩ _);(have h9 := hsz (9 + aW bs (p + 1) 8).toNat))|(apply fR;rfl;rfl;(rfl);(apply iJ <;> (first|assumption|omega));rfl;rfl))|refine aE ?_|(refine aM ?_ ?_ <;> intro hc hq <;> try (exfalso;omega))|fail)
 all_goals
  refine aB rfl ?_
  exact aO (q2,p2) ⟨by dsimp only;omega,by dsimp only;omega,by dsimp only;omega⟩ rfl ⟨.inr rfl,trivial⟩
theorem AR (bs:List UInt8) (hb:bs.length ≤ 1048576):PC Tryz.prog 141 [sl cU bs] (fun r => ∃ (q:Prg) (a:Int),r = .tup [bE q,iv a] ∧ aK q.body ≤ 20000 ∧ q.types.length ≤ 1000 ∧ -1 ≤ a ∧ a ≤ 1048576):=by
 have hb2 : (bs.take 2000).length ≤ 2000 := by rw [List.length_take]; omega
 refine aC Tryz.func141 Tryz.ntmps141 ?_
 repeat' (first|(apply aD;first|(apply eE (k := 206);exact DH (bs.take 2000) 0 hb2 (by decide);rfl;rfl;rfl;rfl;rfl;(rintro ⟨q2,p2⟩ ⟨hr1,hr2,hr3⟩);(dsimp only at hr1 hr2 hr3))|(with_reducible apply a5 (d := 11))|(apply gX;rfl;(apply jE <;> (assumption));rfl;rfl))|refine aE ?_|fail)
 refine b8 ?_
 have hP := sR q2 (by omega) (by omega)
 have hn : (if bK q2 = true then aR q2 else []).length ≤ 61 := by
  split
  ·rename_i h;exact (WG.of_valid h).pl
  ·simp
 generalize (if bK q2 = true then aR q2 else []) = pts at *
 have h0 := cR (bs.take 2000) (p2 + 1) pts.length
 have hn1 := oP (bs.take 2000) (p2 + 1) [-1,60,0] (-1) 60 (by decide) (by decide)
 have hn0 := oP (bs.take 2000) p2 [-1,60,0] (-1) 60 (by decide) (by decide)
 repeat' (first|(apply aD;first|(apply aA (k := 151);rfl;exact hP;exact Pur.pf;rfl)|(first|(apply fR;rfl;rfl;(rfl);(apply iJ <;> (first|assumption|omega));rfl;rfl)|(apply g7;rfl;rfl;rfl;rfl;infer_instance;rfl;(rfl);assumption;omega;(decide);(decide);rfl;rfl)))|refine aE ?_|(refine aM ?_ ?_ <;> intro hc hq <;> try (exfalso;omega))|(refine bS ?_ ?_ <;> intro hg hq <;> try (exfalso;omega))|refine cE ?_|fail)
 all_goals exact aB (l := [bE q2,iv _]) rfl ⟨⟨q2,_,rfl,by omega,by omega,by dsimp only;omega,by dsimp only;omega⟩,Pur.pf⟩
theorem Bn (bs:List UInt8) (hb:bs.length ≤ 1048576):PC Tryz.prog 71 [sl cU bs] (fun r => ∃ (q:Prg) (a v:Int),r = .tup [bE q,iv a,iv v] ∧ aK q.body ≤ 20000 ∧ q.types.length ≤ 1000 ∧ -1 ≤ a ∧ a ≤ 1048576):=by
 have hb2 : (bs.take 2000).length ≤ 2000 := by rw [List.length_take]; omega
 refine aC Tryz.func71 Tryz.ntmps71 ?_
 repeat' (first|(apply aD;first|(apply cV (k := 141);rfl;exact AR bs hb;exact Pur.pf;rfl;(rintro _ ⟨q,a,rfl,hq1,hq2,hq3,hq4⟩ _))|(first|(apply gX;rfl;(apply jE <;> (assumption));rfl;rfl)|(apply g7;rfl;rfl;rfl;rfl;infer_instance;rfl;(rfl);assumption;omega;(decide);(decide);rfl;rfl)))|refine aE ?_|refine cE ?_|fail)
 exact aB (l := [bE q,iv a,iv _]) rfl ⟨⟨q,a,_,rfl,hq1,hq2,hq3,hq4⟩,Pur.pf⟩
theorem Af (bs:List UInt8) (hb:bs.length ≤ 1048576):PC Tryz.prog 22 [sl cU bs] (fun r => ∃ (q:Prg) (a v:Int),r = .tup [bE q,iv a,iv v] ∧ aK q.body ≤ 20000 ∧ q.types.length ≤ 1000 ∧ -1 ≤ a ∧ a ≤ 1048576):=by
 have hb2 : (bs.take 2000).length ≤ 2000 := by rw [List.length_take]; omega
 refine aC Tryz.func22 Tryz.ntmps22 ?_
 repeat' (first|(apply aD;first|(apply cV (k := 71);rfl;exact Bn bs hb;exact Pur.pf;rfl;(rintro _ ⟨q,a,v,rfl,hq1,hq2,hq3,hq4⟩ _))|(first|(apply gX;rfl;(apply jE <;> (assumption));rfl;rfl)|(apply g7;rfl;rfl;rfl;rfl;infer_instance;rfl;(rfl);assumption;omega;(decide);(decide);rfl;rfl)))|refine aE ?_|refine cE ?_|fail)
 exact aB (l := [bE q,iv a,iv _]) rfl ⟨⟨q,a,_,rfl,hq1,hq2,hq3,hq4⟩,Pur.pf⟩
def GZ (p : Prg) (i v : Int) : Bool := bK p && (decide (0 ≤ i) && (decide (i < (aR p).length) && (decide (0 ≤ v) && decide (v < p.types.length))))
theorem k4 {p:Prg}{i v:Int}:GZ p i v = true ↔ nV p i ∧ 0 ≤ v ∧ v < p.types.length:=by
 unfold GZ nV
 simp only [decide_eq_true_eq,Bool.and_eq_true]
 constructor
 ·rintro ⟨h1,h2,h3,h4,h5⟩; exact ⟨⟨h1,h2,h3⟩,h4,h5⟩
 ·rintro ⟨⟨h1,h2,h3⟩,h4,h5⟩; exact ⟨h1,h2,h3,h4,h5⟩
theorem pG (p:Prg) (i v:Int) (hl:p.types.length ≤ 1048576) (hs:aK p.body ≤ 1048576):PC Tryz.prog 77 [bE p,iv i,iv v] (fun r => r = bv (GZ p i v)):=by
 have hval := nQ p hl (by omega)
 have hpt := j1 p hs
 unfold GZ
 generalize bK p = vd at *
 cases vd <;> refine aC Tryz.func77 Tryz.ntmps77 ?_
 all_goals repeat' (first|(apply aD;first|(apply aA (k := 61);rfl;exact hval;exact Pur.pf;rfl)|(apply aA (k := 132);rfl;exact hpt;exact Pur.pf;rfl))|refine aE ?_|(refine bS ?_ ?_ <;> intro hg hq <;> try (exfalso;omega))|fail)
 all_goals (refine aB rfl ⟨?_,rfl⟩; simp only [aP]; refine congrArg (fun b => AV.v (Value.bool b)) ?_; clear hval hpt;first|rfl|(simp_all;done)|grind)
def H7 (R : List (List Bool)) : List AV := [sl lZ R]
instance : FlT H7 1:=⟨fun _ => rfl⟩
instance : FE H7 (fun r => [sl lZ r]):=⟨fun _ => rfl⟩
instance (R : List (List Bool)) : Pur (H7 R):=⟨by show (AV.pur (sl lZ R) && true) = true;rw [Bool.and_true]; exact bZ lZ R⟩
def Bs (nv N : Nat) (A : List Nat) : List (List (List Bool)) := (List.range N).map fun (i : Nat) => (List.range nv).map fun (v : Nat) => (List.range 10).map fun (k : Nat) => A[i * 6 + v]!.testBit k
theorem kT (p:Prg) (i v:Int) (hl:p.types.length ≤ 1048576) (hs:aK p.body ≤ 1048576) (h:¬ (nV p i ∧ 0 ≤ v ∧ v < p.types.length ∧ p.types[v.toNat]! = 1)):PC Tryz.prog 26 [bE p,iv i,iv v] (fun r => r = sl cI []):=by
 have h3 := pG p i v hl hs
 have hb : GZ p i v = true → 0 ≤ v ∧ v < p.types.length := fun e => (k4.1 e).2
 have hb2 : GZ p i v = true → ¬ p.types[v.toNat]! = 1 := fun e e1 => h ⟨(k4.1 e).1,(k4.1 e).2.1,(k4.1 e).2.2,e1⟩
 generalize GZ p i v = b at *
 cases b
 ·refine aC Tryz.func26 Tryz.ntmps26 ?_
  repeat' (first|(apply aD;first|(apply aA (k := 77);rfl;exact h3;exact Pur.pf;rfl)|(apply aJ (t := _);rfl;rfl;rfl;(rfl);rfl;rfl))|refine aE ?_|fail)
  all_goals exact aB rfl ⟨rfl,rfl⟩
 ·have h1 := hb rfl
  have h2 := hb2 rfl
  refine aC Tryz.func26 Tryz.ntmps26 ?_
  repeat' (first|(apply aD;first|(apply aA (k := 77);rfl;exact h3;exact Pur.pf;rfl)|(apply aJ (t := _);rfl;rfl;rfl;(rfl);rfl;rfl))|refine aE ?_|(refine aM ?_ ?_ <;> intro hc hq <;> try (exfalso;omega))|fail)
  all_goals exact aB rfl ⟨rfl,rfl⟩
theorem Ex (nv N:Nat) (A:List Nat){i v:Nat}(hi:i < N) (hv:v < nv):(Bs nv N A)[i]![v]! = (List.range 10).map fun (k:Nat) => A[i * 6 + v]!.testBit k:=by
 unfold Bs;rw [bT _ _ _ hi,bT _ _ _ hv]
theorem En (nv N:Nat) (A:List Nat):(Bs nv N A).length = N := by simp [Bs]
theorem B8 (nv N:Nat) (A:List Nat){i:Nat}(hi:i < N):(Bs nv N A)[i]!.length = nv := by unfold Bs;rw [bT _ _ _ hi]; simp
theorem Ck {a:Nat}(h:a < 2 ^ 10):D3 ((List.range 10).map fun (k:Nat) => a.testBit k) 10 = bF a:=by
 rw [C0 (n := 10) (p := fun k => ((List.range 10).map fun (k : Nat) => a.testBit k)[k]!) ⟨Nat.lt_of_lt_of_le h (by decide)⟩ (by decide) fun k => ?_]
 ·rfl
 ·by_cases hk : k < 10
  ·rw [bT _ _ _ hk,decide_eq_true hk,Bool.true_and]
  ·rw [decide_eq_false hk, Bool.false_and]
   exact Nat.testBit_lt_two_pow (Nat.lt_of_lt_of_le h (Nat.pow_le_pow_right (by decide) (by omega)))
theorem BW {ts:List Int}{pts:List Pnt}(B:WA ts pts){A:List Nat}(hA:GoodU ts pts A){i v:Nat}(hi:i < pts.length) (hv:v < 6):A[i * 6 + v]! < 2 ^ 10 :=
 Nat.lt_pow_two_of_testBit _ fun k hk => by
  rw [Bool.eq_false_iff]; intro q
  have := BM B ((hA.2 i v hi hv k).1 q)
  dsimp only at this;omega
theorem v7 (p:Prg) (i v:Int) (A:List Nat) (hl:p.types.length ≤ 1048576) (hs:aK p.body ≤ 1048576) (h:nV p i) (hv:0 ≤ v ∧ v < p.types.length ∧ p.types[v.toNat]! = 1) (hA:GoodU p.types (aR p) A)
  (hF : PC Tryz.prog 79 [bE p,iv 2,iv 10] (fun r => r = sl H7 (Bs p.types.length (aR p).length A))) : PC Tryz.prog 26 [bE p,iv i,iv v] (fun r => r = sl cI (bF A[i.toNat * 6 + v.toNat]!)) := by
 have h3 := pG p i v hl hs
 rw [k4.2 ⟨h,hv.1,hv.2.1⟩] at h3
 have w := WG.of_valid h.1
 have B := WA.of_valid h.1
 have htl := w.tl
 have hi : 0 ≤ i ∧ i < (aR p).length := h.2
 have hin : i.toNat < (aR p).length := by omega
 have hvn : v.toNat < p.types.length := by omega
 have hl1 := En p.types.length (aR p).length A
 have hl2 := B8 p.types.length (aR p).length A hin
 have hrow := Ex p.types.length (aR p).length A hin hvn
 have hl3 : (Bs p.types.length (aR p).length A)[i.toNat]![v.toNat]!.length = 10 := by rw [hrow]; simp
 have hN := tQ (Bs p.types.length (aR p).length A)[i.toNat]![v.toNat]! (by rw [hl3]; decide)
 rw [hl3] at hN
 have e : D3 (Bs p.types.length (aR p).length A)[i.toNat]![v.toNat]! 10 = bF A[i.toNat * 6 + v.toNat]! := by
  rw [hrow]; exact Ck (BW B hA hin (by omega))
 rw [e] at hN
 refine aC Tryz.func26 Tryz.ntmps26 ?_
 repeat' (first|(apply aD;first|(apply aA (k := 77);rfl;exact h3;exact Pur.pf;rfl)|(apply aA (k := 79);rfl;exact hF;exact Pur.pf;rfl)|(apply aA (k := 78);rfl;exact hN;exact Pur.pf;rfl))|refine aE ?_|(refine aM ?_ ?_ <;> intro hc hq <;> try (exfalso;omega))|fail)
 exact aB rfl ⟨rfl,(by (exact bZ _ _))⟩
theorem Ad {a b:List Bool}{m m2:Nat}{x0 x1:Operand}{i0 i1:Nat}(ha0:ev (lk tsl) x0 = some (.own i0 0 m 1)) (ha1:ev (lk tsl) x1 = some (.own i1 0 m2 1)) (hH0:aN hsl i0 = some (flat cB a)) (hH1:aN hsl i1 = some (flat cB b)) (hdd:Go.AL.distinct [i0,i1] = true) (hmc:MC Tryz.prog 225 [.own 0 0 m 1,.own 1 0 m2 1] [(0,some (flat cB a)),(1,some (flat cB b))] 2 (fun _:Unit => True) (fun _ => .tup []) (fun _ => [(0,some (flat cB (iN a b))),(1,some (flat cB b))])) (hM:Nat.ble (nidl + 0) aU = true) (hN:Nat.blt d N = true){md':Md}[hmd:MdA md (dV [x0,x1] ++ [.inr i0,.inr i1]) (List.map Sum.inr (List.map Prod.fst ([(i0,some (flat cB (iN a b))),(i1,some (flat cB b))]:List (Nat × Option (List AV)))) ++ [.inl d]) md'] (kk:RW Tryz.prog N all Q md' rest ⟨(d,.tup []) :: tsl,eS hsl [(i0,some (flat cB (iN a b))),(i1,some (flat cB b))],nidl + 0,z0⟩):RW Tryz.prog N all Q md (⟨some d,.call ⟨.value (.func 225),#[x0,x1],tys⟩,ty,pos,af,none⟩ :: rest) ⟨tsl,hsl,nidl,z0⟩:=by
 exact aT (l := [x0,x1]) [i0,i1] 2 [(i0,some (flat cB (iN a b))),(i1,some (flat cB b))] hmc (avs := [.own i0 0 m 1,.own i1 0 m2 1]) (by simp only [evL,ha0,ha1]) hdd hM hN (md' := md') (hmd := hmd) kk
theorem Df (a b:List Bool) (m m2:Nat) (hm:m = a.length) (hm':m2 = b.length) (hab:b.length ≤ a.length) (hl:a.length ≤ 1048576):MC Tryz.prog 225 [.own 0 0 m 1,.own 1 0 m2 1] [(0,some (flat cB a)),(1,some (flat cB b))] 2 (fun _:Unit => True) (fun _ => .tup []) (fun _ => [(0,some (flat cB (iN a b))),(1,some (flat cB b))]):=by
 subst hm hm'
 refine aQ Tryz.func225 Tryz.ntmps225 ?_
 repeat' (first|refine aE ?_|fail)
 refine aL (σ := Nat × List Bool) [0,1] [1] (fun k => [(4,iv (k.1 : Int))]) (fun k => [(0,some (flat cB k.2))]) (fun k => k.1 ≤ b.length ∧ k.2.length = a.length ∧ (∀ l,l < a.length → k.2[l]! = (a[l]! || (decide (l < k.1) && b[l]!)))) (fun k => b.length - k.1) (0,a) ⟨by omega,rfl,fun l hl => by simp⟩ ?_
 rintro ⟨k,u⟩ ⟨hk,hul,hu⟩
 dsimp only at hk hul hu
 try dsimp only
 repeat' (first|refine aE ?_|(refine aM ?_ ?_ <;> intro hc hq <;> try (exfalso;omega))|(refine bS ?_ ?_ <;> intro hg hq <;> try (exfalso;omega))|fail)
 ·(refine bX (k + 1, _) (Le.renA []) ?_ ?_)
  ·refine ⟨(by show k + 1 ≤ b.length; omega), (by show (u.set k _).length = a.length; rw [List.length_set]; exact hul), fun l hl => ?_⟩
   show (u.set k _)[l]! = (a[l]! || (decide (l < k + 1) && b[l]!))
   have h1 := hu l hl
   have h2 := hu k (by omega)
   rw [c7]
   clear hu
   grind
  ·show b.length - (k + 1) < b.length - k;omega
 ·(refine bX (k + 1, _) (Le.renA []) ?_ ?_)
  ·refine ⟨(by show k + 1 ≤ b.length; omega), (by show (u.set k _).length = a.length; rw [List.length_set]; exact hul), fun l hl => ?_⟩
   show (u.set k _)[l]! = (a[l]! || (decide (l < k + 1) && b[l]!))
   have h1 := hu l hl
   have h2 := hu k (by omega)
   rw [c7]
   clear hu
   grind
  ·show b.length - (k + 1) < b.length - k;omega
 ·refine Gu (l := []) rfl ?_
  refine aO () trivial rfl ⟨sE ?_,.inr rfl,trivial⟩
  have e : u = iN a b := cY (by rw [fM, hul]) fun l hl => by
   rw [fJ _ _ _ (by omega),hu l (by omega)]
   clear hu
   grind
  rw [e]
theorem xL {a:List Bool}{R:List (List Bool)}{k m m2:Nat}{x0 x1:Operand}{i0:Nat}(ha0:ev (lk tsl) x0 = some (.own i0 0 m 1)) (ha1:ev (lk tsl) x1 = some (.own (k + aU) 0 m2 1))
  (hH0 : aN hsl i0 = some (flat cB a)) (hF : FamR R R hsl hsl) (hk : k < R.length) (hi : Nat.blt i0 aU = true) (hm : m = a.length) (hm2 : m2 = R[k]!.length) (hab : R[k]!.length ≤ a.length) (hl : a.length ≤ 1048576) (hM : Nat.ble (nidl + 0) aU = true) (hN : Nat.blt d N = true)
  (kk : RW Tryz.prog N all Q .txt rest ⟨(d,.tup []) :: tsl,(i0,some (flat cB (iN a R[k]!))) :: hsl,nidl + 0,z0⟩) : RW Tryz.prog N all Q .txt (⟨some d,.call ⟨.value (.func 225),#[x0,x1],tys⟩,ty,pos,af,none⟩ :: rest) ⟨tsl,hsl,nidl,z0⟩ :=
 Ad (a := a) (b := R[k]!) (i0 := i0) (i1 := k + aU) ha0 ha1 hH0 (hF.get hk) (Is hi) (Df a R[k]! m m2 hm hm2 hab hl) hM hN (md' := .txt) (fV kk (Le.fdrop (FamR.cons hi hF) hk))
theorem wW (p:Prg) (pts:List Pnt) (w:WG p.types pts) (B:WA p.types pts) (i:Nat) (hi:i < pts.length) (R0:List (List Bool)) (hl:R0.length = p.types.length) (hr:∀ k,k < p.types.length → R0[k]!.length = 10) :
  HB Tryz.prog 208 [bE p,dK pts[i]!,iv (i : Int),.imm p.types.length (flat (oS 0 10) (List.range p.types.length)),iv 2,iv 10] R0 (sl cB (Bu pts i R0)) [] := by
 have hy := w.y i hi
 have hn := (B.a i hi).n
 have htl := w.tl
 have hpl := w.pl
 have hY : pts[i]!.op = 3 → 0 ≤ pts[i]!.y ∧ pts[i]!.y.toNat < p.types.length := fun h => by omega
 have hry : pts[i]!.op = 3 → R0[pts[i]!.y.toNat]!.length = 10 := fun h => hr _ (hY h).2
 have e1 : pts[i]!.op = 1 → (List.replicate 10 false).set pts[i]!.n.toNat true = Bu pts i R0 := fun h => cY (by rw [gW]; simp) fun l hl => by
  rw [List.length_set,List.length_replicate] at hl
  have := hn (.inl h)
  rw [c7,hU _ _ _ _ hl,if_pos h,g6 _ _ _ hl,List.length_replicate]
  by_cases e : pts[i]!.n.toNat = l
  ·rw [if_pos ⟨e,hl⟩,decide_eq_true (by omega)]
  ·rw [if_neg (fun q => e q.1),decide_eq_false (by omega)]
 have e3 : pts[i]!.op = 3 → iN (List.replicate 10 false) R0[pts[i]!.y.toNat]! = Bu pts i R0 := fun h => cY (by rw [fM, gW]; simp) fun l hl => by
  rw [fM,List.length_replicate] at hl
  rw [fJ _ _ _ (by simpa using hl),hU _ _ _ _ hl,if_neg (by omega),if_pos h,g6 _ _ _ hl,decide_eq_true (by rw [hry h]; exact hl)]; rfl
 have e6 : pts[i]!.op = 6 → (List.range 10).map (fun (l : Nat) => decide (l < 10)) = Bu pts i R0 := fun h => cY (by rw [gW]; simp) fun l hl => by
  rw [List.length_map,List.length_range] at hl
  rw [bT _ _ _ hl,hU _ _ _ _ hl,if_neg (by omega),if_neg (by omega),decide_eq_true hl,decide_eq_true h]
 have e0 : ¬ pts[i]!.op = 1 → ¬ pts[i]!.op = 3 → ¬ pts[i]!.op = 6 → List.replicate 10 false = Bu pts i R0 := fun h1 h3 h6 => cY (by rw [gW]; simp) fun l hl => by
  rw [List.length_replicate] at hl
  rw [g6 _ _ _ hl,hU _ _ _ _ hl,if_neg h1,if_neg h3,decide_eq_false h6]
 have hvl := gW pts i R0
 rw [show iv 10 = iv ((10 : Nat) : Int) from rfl]
 refine tN Tryz.func208 Tryz.ntmps208 ?_
 repeat' (first|(apply aD;first|(apply xL;rfl;rfl;rfl;(case hF => (repeat' (first|exact FamR.here|(apply FamR.cons;focus rfl))));(simp only [Nat.zero_add] <;> omega);rfl;(case hm => (simp;done));(simp only [Nat.zero_add]; symm;exact hr _ (by omega));(simp only [Nat.zero_add]; rw [hr _ (by omega)]; simp);(case hl => (simp;done));rfl;rfl)|(apply mA;rfl;rfl;(omega);rfl;infer_instance;infer_instance;rfl)|(apply bH;rfl;rfl;rfl;rfl;rfl;(rw [aI]; simp only [fP] <;> omega);(exact rP (by (simp only [fP] <;> omega)))))|refine aE ?_|(refine aM ?_ ?_ <;> intro hc hq <;> try (exfalso;omega))|fail)
 ·refine aS (Le.frzD (d := 12) (i := 2) rfl rfl) ?_
  refine aB (l := [_]) rfl ?_
  refine jZ ?_ trivial (by (repeat' (first|exact FamR.here|(apply FamR.cons;focus rfl))))
  simp only [aP,Nat.zero_add]
  rw [e1 (by assumption)]
  simp only [sl,hvl]
 ·refine aS (Le.frzD (d := 12) (i := 2) rfl rfl) ?_
  refine aB (l := [_]) rfl ?_
  refine jZ ?_ trivial (by (repeat' (first|exact FamR.here|(apply FamR.cons;focus rfl))))
  simp only [aP,Nat.zero_add]
  rw [e3 (by assumption)]
  simp only [sl,hvl]
 ·refine dQ (σ := Nat × List Bool) (fun s => R0) [5, 13] [1, 0] (fun s => [(14, iv (s.1 : Int))]) (fun s => [(2, some (flat cB s.2))]) (fun s => s.1 ≤ 10 ∧ s.2 = (List.range 10).map (fun (l : Nat) => decide (l < s.1))) (fun s => 10 - s.1) (0, List.replicate 10 false) ⟨Nat.zero_le _, rfl⟩ ?_
  rintro ⟨k,u⟩ ⟨hk,hu⟩
  dsimp only at hk hu
  have hul : u.length = 10 := by rw [hu]; simp
  try dsimp only
  repeat' (first|(apply aD;(apply bH;rfl;rfl;rfl;rfl;rfl;(rw [aI]; simp only [fP] <;> omega);(exact rP (by (omega)))))|refine aE ?_|(refine aM ?_ ?_ <;> intro hc hq <;> try (exfalso;omega))|fail)
  ·(apply bX (k + 1, u.set k true); focus (refine Le.renF0 [(0, 0), (1, 1), (2, 2)] (R := ?qA3) (hF := ?qF3) (hz := ?qz3) (hm := ?qm3) (hn := ?qn3) (h1 := ?q13) (h2 := ?q23); (case qF3 => (repeat' (first | exact FamR.here | (apply FamR.cons; focus rfl)))); (case qz3 => (rfl)); (case qm3 => rfl); (case qn3 => decide); all_goals (repeat' (first | exact trivial | refine And.intro ⟨_, rfl, ?_⟩ ?_ | refine And.intro ⟨_, _, rfl, rfl, ?_⟩ ?_ | exact RnL.purI inferInstance | exact RnV.purI inferInstance | exact RnV.own rfl))))
   ·refine ⟨(by show k + 1 ≤ 10; omega), ?_⟩
    show u.set k true = (List.range 10).map (fun (l : Nat) => decide (l < k + 1))
    refine cY (by rw [List.length_set,hul]; simp) fun l hl => ?_
    rw [List.length_set,hul] at hl
    rw [c7,bT _ _ _ hl,hu,bT _ _ _ hl]
    by_cases e : k = l
    ·rw [if_pos ⟨e,by simpa using hl⟩,decide_eq_true (by omega)]
    ·rw [if_neg (fun q => e q.1)]
     exact decide_eq_decide.2 (by omega)
   ·show 10 - (k + 1) < 10 - k;omega
  ·have hk10 : k = 10 := by omega
   subst hk10
   refine aS (Le.frzD (d := 12) (i := 2) rfl rfl) ?_
   refine aB (l := [_]) rfl ?_
   refine jZ ?_ trivial (by (repeat' (first|exact FamR.here|(apply FamR.cons;focus rfl))))
   simp only [aP,Nat.zero_add]
   rw [hu,e6 (by assumption)]
   simp only [sl,hvl]
 ·refine aS (Le.frzD (d := 12) (i := 2) rfl rfl) ?_
  refine aB (l := [_]) rfl ?_
  refine jZ ?_ trivial (by (repeat' (first|exact FamR.here|(apply FamR.cons;focus rfl))))
  simp only [aP,Nat.zero_add]
  rw [e0 (by assumption) (by assumption) (by assumption)]
  simp only [sl,hvl]
theorem wN (A R0:List (List Bool)) (nv:Nat) (hnv:nv ≤ 6) (hA:A.length = nv) (hA2:∀ v,v < nv → A[v]!.length = 10) (hl:R0.length = nv) (hr:∀ k,k < nv → R0[k]!.length = 10) :
  IL Tryz.prog 145 [.imm nv (flat (oS 0 10) (List.range nv)),sl lZ A] R0 (HC A R0) (bv (D0 A R0)) := by
 (refine CO Tryz.func145 rfl (by simp [Tryz.ntmps145]) ?_; rw [Tryz.ntmps145])
 repeat' (first|refine aE ?_|fail)
 refine dQ (σ := Nat × List (List Bool) × Bool) (fun s => s.2.1) [0,1] [] (fun s => [(5,bv s.2.2),(6,iv (s.1 : Int))]) (fun s => []) (fun s => s.1 ≤ nv ∧ MgS A R0 s.2.1 s.2.2 s.1 0) (fun s => nv - s.1) (0,R0,false) ⟨Nat.zero_le _,MgS.start (fun q hq => hr q (by omega))⟩ ?_
 rintro ⟨v,R,c⟩ ⟨hv,hS⟩
 dsimp only at hv hS
 have hRl := hS.lo
 try dsimp only
 by_cases hvn : v < nv
 ·have hav := hA2 v hvn
  have hrv := hS.ro v (by omega)
  repeat' (first|refine aE ?_|(refine aM ?_ ?_ <;> intro hc hq <;> try (exfalso;omega))|fail)
  refine dQ (σ := Nat × List (List Bool) × Bool) (fun s => s.2.1) [0,1,6] [] (fun s => [(5,bv s.2.2),(7,iv (s.1 : Int))]) (fun s => []) (fun s => s.1 ≤ 10 ∧ MgS A R0 s.2.1 s.2.2 v s.1) (fun s => 10 - s.1) (0,R,c) ⟨Nat.zero_le _,hS⟩ ?_
  rintro ⟨l,R2,c2⟩ ⟨hl2,hS2⟩
  dsimp only at hl2 hS2
  have hRl2 := hS2.lo
  have hrv2 := hS2.ro v (by omega)
  try dsimp only
  by_cases hln : l < 10
  ·repeat' (first | (apply aD; first | (apply Dq;rfl;(case hF => (repeat' (exact FamR.here)));(omega);(simp only [fP] <;> omega);rfl) | (apply j6;rfl;rfl;(assumption);rfl;infer_instance;infer_instance;rfl) | (apply zU;rfl;rfl;(case hF => (repeat' (exact FamR.here)));(omega);(simp only [fP] <;> omega))) | refine aE ?_ | (refine aM ?_ ?_ <;> intro hc hq <;> try (exfalso; omega)) | (refine bS ?_ ?_ <;> intro hg hq <;> try (exfalso; omega))|fail)
   ·(apply bX (l + 1, R2.set (0 + v) (R2[0 + v]!.set l true), true); focus (refine Le.renF0 [] (R := ?qA4) (hF := ?qF4) (hz := ?qz4) (hm := ?qm4) (hn := ?qn4) (h1 := ?q14) (h2 := ?q24); (case qF4 => (repeat' (exact FamR.here))); (case qz4 => (simp only [List.length_set]; done)); (case qm4 => rfl); (case qn4 => decide); all_goals (repeat' (first | exact trivial | refine And.intro ⟨_, rfl, ?_⟩ ?_ | exact RnV.purI inferInstance | exact RnV.imm (eJ (by (simp only [List.length_replicate, List.length_set, List.length_append, List.length_singleton] at * <;> omega)))))))
    ·refine ⟨(by show l + 1 ≤ 10; omega), ?_⟩
     have hf : R2[v]![l]! = false := by simp only [Nat.zero_add] at *; assumption
     have hh := hS2.hit (by omega) hln (by assumption) hf
     simpa only [Nat.zero_add] using hh
    ·show 10 - (l + 1) < 10 - l;omega
   ·(apply bX (l + 1, R2, c2); focus (refine Le.renF0 [] (R := ?qA5) (hF := ?qF5) (hz := ?qz5) (hm := ?qm5) (hn := ?qn5) (h1 := ?q15) (h2 := ?q25); (case qF5 => (repeat' (exact FamR.here))); (case qz5 => (rfl)); (case qm5 => rfl); (case qn5 => decide); all_goals (repeat' (first | exact trivial | refine And.intro ⟨_, rfl, ?_⟩ ?_ | exact RnV.purI inferInstance | exact RnV.imm (eJ (by (simp only [List.length_replicate, List.length_set, List.length_append, List.length_singleton] at * <;> omega)))))))
    ·exact ⟨(by show l + 1 ≤ 10;omega),hS2.skip (by omega) hln (fun _ => by simp only [Nat.zero_add] at *; assumption)⟩
    ·show 10 - (l + 1) < 10 - l;omega
   ·(apply bX (l + 1, R2, c2); focus (refine Le.renF0 [] (R := ?qA6) (hF := ?qF6) (hz := ?qz6) (hm := ?qm6) (hn := ?qn6) (h1 := ?q16) (h2 := ?q26); (case qF6 => (repeat' (exact FamR.here))); (case qz6 => (rfl)); (case qm6 => rfl); (case qn6 => decide); all_goals (repeat' (first | exact trivial | refine And.intro ⟨_, rfl, ?_⟩ ?_ | exact RnV.purI inferInstance | exact RnV.imm (eJ (by (simp only [List.length_replicate, List.length_set, List.length_append, List.length_singleton] at * <;> omega)))))))
    ·exact ⟨(by show l + 1 ≤ 10;omega),hS2.skip (by omega) hln (fun h => by simp_all)⟩
    ·show 10 - (l + 1) < 10 - l;omega
  ·repeat' (first | refine aE ?_ | (refine aM ?_ ?_ <;> intro hc hq <;> try (exfalso; omega))|fail)
   (apply bX (v + 1,R2,c2);focus (refine Le.renF0 [] (R := ?qA7) (hF := ?qF7) (hz := ?qz7) (hm := ?qm7) (hn := ?qn7) (h1 := ?q17) (h2 := ?q27);(case qF7 => (repeat' (exact FamR.here)));(case qz7 => (rfl));(case qm7 => rfl);(case qn7 => decide);all_goals (repeat' (first|exact trivial|refine And.intro ⟨_,rfl,?_⟩ ?_|exact RnV.purI inferInstance|exact RnV.imm (eJ (by (simp only [List.length_replicate,List.length_set,List.length_append,List.length_singleton] at * <;> omega)))))))
   ·exact ⟨(by show v + 1 ≤ nv;omega),hS2.row (by omega)⟩
   ·show nv - (v + 1) < nv - v;omega
 ·repeat' (first | refine aE ?_ | (refine aM ?_ ?_ <;> intro hc hq <;> try (exfalso; omega))|fail)
  obtain ⟨f1,f2⟩ := hS.fin (fun q hq => hA2 q (by omega)) (fun q hq => hr q (by omega)) (by omega)
  subst f1 f2
  refine aB rfl ?_
  exact F3 rfl (by (repeat' (exact FamR.here)))
def gU (ts : List Int) (x : Pnt) (R0 : List (List Bool)) (v : Nat) : List Bool := if bB ts x (v : Int) = 2 then List.replicate 10 false else R0[v]!
theorem HS {G:Nat → List Bool}{k:Nat}{r:List Bool}(h:G k = r) (h10:r.length = 10):flat lZ ((List.range (k + 1)).map G) = ((flat lZ ((List.range k).map G)).drop 0).take (k * 1) ++ [.imm 10 (flat cB r)]:=by
 have e : ((flat lZ ((List.range k).map G)).drop 0).take (k * 1) = flat lZ ((List.range k).map G) := List.take_of_length_le (by rw [List.drop_zero,aI lZ (e := 1)]; simp)
 rw [e,List.range_succ,List.map_append,← bI,List.map_singleton,iO,h,← h10]; rfl
theorem DV {ρ:Nat → Option Nat}{a b:List AV}[h:Pur a] (e:a = b):RnL ρ a b := by subst e;exact .pur h.pf
theorem xK (p:Prg) (pts:List Pnt) (w:WG p.types pts) (B:WA p.types pts) (i:Nat) (hi:i < pts.length) (R0:List (List Bool)) (hl:R0.length = p.types.length) (hr:∀ k,k < p.types.length → R0[k]!.length = 10) :
  HB Tryz.prog 144 [bE p,dK pts[i]!,iv (i : Int),.imm p.types.length (flat (oS 0 10) (List.range p.types.length)),iv 2,iv 10] R0 (sl lZ (oZ p.types pts i R0)) [] := by
 have hV := wW p pts w B i hi R0 hl hr
 have hgl : ∀ k,k < p.types.length → (gU p.types pts[i]! R0 k).length = 10 := fun k hk => by unfold gU;split;simp;exact hr k hk
 have hset := w.set i hi
 have htl := w.tl
 have hpl := w.pl
 rw [show iv 10 = iv ((10 : Nat) : Int) from rfl]
 refine tN Tryz.func144 Tryz.ntmps144 ?_
 repeat' (first|refine aE ?_|fail)
 refine dQ (σ := Nat) (fun k => R0) [2,3,4,5,6,7] [1,0] (fun k => [(14,iv (k : Int)),(13,.own 2 0 k 1)]) (fun k => [(2,some (flat lZ ((List.range k).map (gU p.types pts[i]! R0))))]) (fun k => k ≤ p.types.length) (fun k => p.types.length - k) (0) (Nat.zero_le _) ?_
 intro k hk
 try dsimp only
 have hrk : k < p.types.length → R0[k]!.length = 10 := fun h => hr k h
 have hvl := gW pts i R0
 repeat' (first|(apply aD;first|(apply u4 (k := 208) (R := R0) (avs0 := [bE p,dK pts[i]!,iv (i : Int),.imm p.types.length (flat (oS 0 10) (List.range p.types.length)),iv 2,iv 10]) (b := 0) (n1 := 0) (D := (List.range R0.length).map fun k => 0 + k + aU) (ws := []) (h := hV) (rr' := sl cB (Bu pts i R0));(case ha => rfl);(case hF => (repeat' (first|exact FamR.here|(apply FamR.cons;focus rfl))));(case hb => omega);(case hR => exact fun k hk => by rw [Nat.zero_add]);(case hD => exact fun k hk => List.mem_map.2 ⟨k,by rw [List.mem_range]; exact hk,rfl⟩);(case har => exact .cons (RnV.purI inferInstance) (.cons (RnV.purI inferInstance) (.cons (RnV.purI inferInstance) (.cons (.imm (rn_rows fun k hk => (by rw [Nat.zero_add,iA (by omega),Nat.zero_add]))) (.cons (RnV.purI inferInstance) (.cons (RnV.purI inferInstance) .nil))))));(case hk => rfl);(case hr => exact RnV.purI inferInstance);(case hw => exact trivial);(case hM|hN => rfl))|(with_reducible apply a5 (d := 56))|(apply j6;rfl;rfl;(omega);rfl;infer_instance;infer_instance;rfl)|(apply c8;rfl;rfl;rfl;rfl;rfl;(case hl => (simp [aI]; done));(case hs' => first|(apply Gc;(focus (repeat' (first|exact FamR.here|(apply FamR.cons;focus rfl))));(focus (omega));(simp only [fP] <;> omega))|rfl);omega;omega;(first|exact nG (by (omega))|rfl);rfl;rfl)|(first|(apply aA (k := 173);rfl;(apply E0 <;> (omega));exact Pur.pf;rfl)|(apply aA (k := 196);rfl;(apply ET);exact Pur.pf;rfl)))|refine aE ?_|(refine aM ?_ ?_ <;> intro hc hq <;> try (exfalso;omega))|fail)
 ·(apply bX (k + 1); focus (refine Le.trans (Le.frzC (j := 5) (i := 3) (((flat lZ ((List.range k).map (gU p.types pts[i]! R0))).drop 0).take (k * 1)) rfl rfl (by decide)) ?_; refine Le.renF0 [(0, 0), (1, 1), (2, 5)] (R := ?qA1) (hF := ?qF1) (hz := ?qz1) (hm := ?qm1) (hn := ?qn1) (h1 := ?q11) (h2 := ?q21); (case qF1 => (repeat' (first | exact FamR.here | (apply FamR.cons; focus rfl)))); (case qz1 => (rfl)); (case qm1 => rfl); (case qn1 => decide); all_goals (repeat' (first | exact trivial | refine And.intro ⟨_, rfl, ?_⟩ ?_ | refine And.intro ⟨_, _, rfl, rfl, ?_⟩ ?_ | exact RnL.purI inferInstance | exact RnV.purI inferInstance | exact RnV.own rfl | exact RnV.optr rfl | exact RnV.imm (eJ (by (simp only [List.length_replicate, List.length_set, List.length_append, List.length_singleton] at * <;> omega))) | exact DV (HS (by unfold gU; rw [if_pos (by assumption)]) (by simp))))))
  ·show k + 1 ≤ p.types.length;omega
  ·show p.types.length - (k + 1) < p.types.length - k;omega
 ·(apply bX (k + 1); focus (refine Le.trans (Le.frzC (j := 6) (i := 4) (((flat lZ ((List.range k).map (gU p.types pts[i]! R0))).drop 0).take (k * 1)) rfl rfl (by decide)) ?_; refine Le.renF0 [(0, 0), (1, 1), (2, 6)] (R := ?qA2) (hF := ?qF2) (hz := ?qz2) (hm := ?qm2) (hn := ?qn2) (h1 := ?q12) (h2 := ?q22); (case qF2 => (repeat' (first | exact FamR.here | (apply FamR.cons; focus rfl)))); (case qz2 => (rfl)); (case qm2 => rfl); (case qn2 => decide); all_goals (repeat' (first | exact trivial | refine And.intro ⟨_, rfl, ?_⟩ ?_ | refine And.intro ⟨_, _, rfl, rfl, ?_⟩ ?_ | exact RnL.purI inferInstance | exact RnV.purI inferInstance | exact RnV.own rfl | exact RnV.optr rfl | exact RnV.imm (eJ (by (simp only [List.length_replicate, List.length_set, List.length_append, List.length_singleton] at * <;> omega))) | exact DV (HS (r := R0[0 + k]!) (by unfold gU; rw [if_neg (by assumption), Nat.zero_add]) (by rw [Nat.zero_add]; exact hrk (by omega)))))))
  ·show k + 1 ≤ p.types.length;omega
  ·show p.types.length - (k + 1) < p.types.length - k;omega
 ·have hke : k = p.types.length := by omega
  subst hke
  have e : ((List.range p.types.length).map (gU p.types pts[i]! R0)).set (bC pts[i]!).toNat (Bu pts i R0) = oZ p.types pts i R0 := cY (by rw [k9]; simp) fun v hv => by
   rw [List.length_set,List.length_map,List.length_range] at hv
   rw [c7,jD _ _ _ _ _ hv,bT _ _ _ hv]
   by_cases e : bC pts[i]! = v
   ·rw [if_pos ⟨by omega,by simpa using hv⟩,if_pos e]
   ·rw [if_neg (fun h => e (by omega)),if_neg e]; rfl
  have hul : ((List.range p.types.length).map (gU p.types pts[i]! R0)).length = p.types.length := by simp
  have hsi : 0 ≤ bC pts[i]! := by assumption
  have hsl : (bC pts[i]!).toNat < p.types.length := by omega
  generalize (List.range p.types.length).map (gU p.types pts[i]! R0) = u at *
  refine b8 ?_
  rw [show ∀ hs,eS hs [] = hs from fun _ => rfl]
  repeat' (first|(apply aD;(apply bH;rfl;rfl;rfl;rfl;rfl;(rw [aI]; simp only [fP] <;> omega);(exact zF (by (omega)))))|refine aE ?_|fail)
  refine aS (Le.frzD (d := 12) (i := 2) rfl rfl) ?_
  refine aB (l := [_]) rfl ?_
  refine jZ ?_ trivial (by (repeat' (first|exact FamR.here|(apply FamR.cons;focus rfl))))
  simp only [aP,Nat.zero_add]
  rw [e]
  simp only [sl,k9]
 ·have hke : k = p.types.length := by omega
  subst hke
  have e : (List.range p.types.length).map (gU p.types pts[i]! R0) = oZ p.types pts i R0 := cY (by rw [k9]; simp) fun v hv => by
   rw [List.length_map,List.length_range] at hv
   rw [jD _ _ _ _ _ hv,bT _ _ _ hv,if_neg (by omega)]; rfl
  refine aS (Le.frzD (d := 12) (i := 2) rfl rfl) ?_
  refine aB (l := [_]) rfl ?_
  refine jZ ?_ trivial (by (repeat' (first|exact FamR.here|(apply FamR.cons;focus rfl))))
  simp only [aP]
  rw [e]
  simp only [sl,k9]
def Br (nv : Nat) (i : Nat) : List AV := [.imm nv (flat (oS (i * nv) 10) (List.range nv))]
instance (nv : Nat) : FlT (Br nv) 1:=⟨fun _ => rfl⟩
instance (nv : Nat) : FE (Br nv) (fun i => [.imm nv (flat (oS (i * nv) 10) (List.range nv))]):=⟨fun _ => rfl⟩
theorem lV {m:List (Nat × Nat)}{lo:Lo}{pn:Option Nat}{nv k:Nat}(h:aU + k * nv ≤ lo.fb):RnL (gJ m lo pn) (flat (Br nv) (List.range k)) (flat (Br nv) (List.range k)) :=
 RnL.flt fun i hi => by
  rw [List.mem_range] at hi
  have h1 := lU (nv := nv) hi
  exact .cons (.imm (eJ (by omega))) .nil
theorem Dr {m:List (Nat × Nat)}{lo:Lo}{pn:Option Nat}{nv k:Nat}(h:lo.fb = aU + (k + 1) * nv):RnL (gJ m lo pn) (flat (Br nv) (List.range (k + 1))) (((flat (Br nv) (List.range k)).drop 0).take (k * 1) ++ [.imm nv (flat (oS (k * nv) 10) (List.range nv))]):=by
 have e : ((flat (Br nv) (List.range k)).drop 0).take (k * 1) = flat (Br nv) (List.range k) := List.take_of_length_le (by rw [List.drop_zero,aI (Br nv) (e := 1)]; simp)
 have := lV (m := m) (pn := pn) (Nat.le_of_eq h.symm)
 rw [e]
 rw [List.range_succ,← bI,iO] at this ⊢
 exact this
theorem HZ {D:List Nat}{hs:List (Nat × Option (List AV))}{R:List (List Bool)}{nv M n:Nat}(hF:FamR R R hs hs) (hD:∀ k,k < nv → n * nv + k + aU ∈ D) (hlo:R.length = M * nv) (hn:n < M) (hro:∀ q,q < R.length → R[q]!.length = 10) :
  LdL D (aN hs) (Br nv n) [sl lZ (jQ nv R n)] := by
 have h1 := lU (nv := nv) hn
 have h2 : (jQ nv R n).length = nv := dL hlo hn
 have e1 : sl lZ (jQ nv R n) = .imm nv (flat lZ ((R.drop (n * nv)).take nv)) := by unfold sl;rw [h2]; rfl
 rw [e1]
 exact .cons (.imm (LdL.rows hF hD (by omega) (fun k hk => hro _ (by omega)))) .nil
theorem w7 (p:Prg) (pts:List Pnt) (w:WG p.types pts) (B:WA p.types pts) (i:Nat) (hi:i < pts.length) (R:List (List Bool)) (h:FUd p.types pts R) :
  HB Tryz.prog 144 [bE p,dK pts[i]!,iv (i : Int),.imm p.types.length (flat (oS 0 10) (List.range p.types.length)),iv 2,iv 10] (jQ p.types.length R i) (sl lZ (oZ p.types pts i (jQ p.types.length R i))) [] :=
 xK p pts w B i hi _ (dL h.lo hi) (fun k hk => h.row hi hk)
def Ge (b : Nat) : List Nat := [b + 0 + aU,b + 1 + aU,b + 2 + aU,b + 3 + aU,b + 4 + aU,b + 5 + aU]
theorem CR {b k:Nat}(h:k < 6):b + k + aU ∈ Ge b:=by
 unfold Ge
 match k,h with
 | 0,_ => simp
 | 1,_ => simp
 | 2,_ => simp
 | 3,_ => simp
 | 4,_ => simp
 | 5,_ => simp
theorem z5 (p:Prg) (A:List Nat) (hs:aK p.body ≤ 1048576) (w:WG p.types (aR p)) (B:WA p.types (aR p)) (hA:GoodU p.types (aR p) A):PC Tryz.prog 79 [bE p,iv 2,iv 10] (fun r => r = sl H7 (Bs p.types.length (aR p).length A)):=by
 have hpl := w.pl
 have hp0 := w.p0
 have htl := w.tl
 rw [show iv 10 = iv ((10 : Nat) : Int) from rfl]
 refine aC Tryz.func79 Tryz.ntmps79 ?_
 repeat' (first|(apply aD;(apply aA (k := 132);rfl;exact j1 p hs;exact Pur.pf;rfl))|refine aE ?_|fail)
 refine dQ (σ := Nat) (fun k => List.replicate (p.types.length * k) (List.replicate 10 false)) [1,2,3,7] [0] (fun k => [(9,iv (k : Int)),(8,.own 1 0 k 1)]) (fun k => [(1,some (flat (Br p.types.length) (List.range k)))]) (fun k => k ≤ (aR p).length) (fun k => (aR p).length - k) (0) (Nat.zero_le _) ?_
 intro k hk
 try dsimp only
 repeat' (first|(apply aD;(with_reducible apply a5 (d := 12)))|refine aE ?_|(refine aM ?_ ?_ <;> intro hc hq <;> try (exfalso;omega))|fail)
 ·refine dQ (σ := Nat) (fun v => List.replicate (p.types.length * k + v) (List.replicate 10 false)) [1, 2, 3, 7, 8, 9] [0, 1] (fun v => [(11, iv (v : Int)), (10, .own 2 0 v 1)]) (fun v => [(2, some (flat (oS (k * p.types.length) 10) (List.range v)))]) (fun v => v ≤ p.types.length) (fun v => p.types.length - v) (0) (Nat.zero_le _) ?_
  intro v hv
  try dsimp only
  repeat' (first|(apply aD;first|(with_reducible apply a5 (d := 38))|(apply c8;rfl;rfl;rfl;rfl;rfl;(case hl => (simp [aI]; done));(rfl);omega;omega;(rfl);rfl;rfl))|refine aE ?_|(refine aM ?_ ?_ <;> intro hc hq <;> try (exfalso;omega))|fail)
  ·(apply bX (v + 1); focus (refine Le.renF1 [(0, 0), (1, 1), (2, 5)] 3 (R := ?qA1) (r := ?qB1) (hF := ?qF1) (hz := ?qz1) (hm := ?qm1) (hn := ?qn1) (hlb := ?qlb1) (hb := ?qb1) (hr := ?qr1) (hR := ?qR1) (h1 := ?q11) (h2 := ?q21); (case qF1 => (repeat' (first | exact FamR.here | (apply FamR.cons; focus rfl)))); (case qz1 => (rfl)); (case qm1 => rfl); (case qn1 => decide); (case qlb1 => decide); (case qb1 => decide); (case qr1 => rfl); (case qR1 => (exact List.replicate_succ')); all_goals (repeat' (first | exact trivial | refine And.intro ⟨_, rfl, ?_⟩ ?_ | refine And.intro ⟨_, _, rfl, rfl, ?_⟩ ?_ | exact RnL.purI inferInstance | exact RnV.purI inferInstance | exact RnV.own rfl | exact RnV.optr rfl | exact DK (by decide) (by rw [List.length_replicate, Nat.mul_comm]) | exact lV (by show aU + _ ≤ aU + (List.replicate (p.types.length * k + v) (List.replicate 10 false)).length; rw [List.length_replicate, Nat.mul_comm]; omega)))))
   ·show v + 1 ≤ p.types.length;omega
   ·show p.types.length - (v + 1) < p.types.length - v;omega
  ·have hve : v = p.types.length := by omega
   subst hve
   refine b8 ?_
   rw [show p.types.length * k + p.types.length = p.types.length * (k + 1) from rfl]
   repeat' (first|(apply aD;(apply c8;rfl;rfl;rfl;rfl;rfl;(case hl => (simp [aI]; done));(rfl);omega;omega;(rfl);rfl;rfl))|refine aE ?_|fail)
   (apply bX (k + 1);focus (refine Le.trans (Le.frzC (j := 4) (i := 2) (((flat (Br p.types.length) (List.range k)).drop 0).take (k * 1)) rfl rfl (by decide)) ?_; refine Le.renF0 [(0,0),(1,4)] (R := ?qA2) (hF := ?qF2) (hz := ?qz2) (hm := ?qm2) (hn := ?qn2) (h1 := ?q12) (h2 := ?q22);(case qF2 => (repeat' (first|exact FamR.here|(apply FamR.cons;focus rfl))));(case qz2 => (rfl));(case qm2 => rfl);(case qn2 => decide);all_goals (repeat' (first|exact trivial|refine And.intro ⟨_,rfl,?_⟩ ?_|refine And.intro ⟨_,_,rfl,rfl,?_⟩ ?_|exact RnL.purI inferInstance|exact RnV.purI inferInstance|exact RnV.own rfl|exact RnV.optr rfl|exact Dr (by show aU + (List.replicate (p.types.length * (k + 1)) (List.replicate 10 false)).length = _; rw [List.length_replicate,Nat.mul_comm])))))
   ·show k + 1 ≤ (aR p).length;omega
   ·show (aR p).length - (k + 1) < (aR p).length - k;omega
 ·have hkN : k = (aR p).length := by omega
  subst hkN
  refine b8 (fV ?_ (Le.frzD (d := 8) (i := 1) rfl rfl))
  rw [Nat.mul_comm]
  repeat' (first|refine aE ?_|fail)
  refine dQ (σ := List (List Bool) × Bool) (fun s => s.1) [1,2,3,7,8] [0] (fun s => [(12,bv s.2)]) (fun s => []) (fun s => FUH p.types (aR p) s.1 s.2) (fun s => Ix p.types (aR p) s.1 s.2) (List.replicate ((aR p).length * p.types.length) (List.replicate 10 false),true) (FUH.init _ _) ?_
  rintro ⟨R,c⟩ hFH
  try dsimp only at hFH
  try dsimp only
  have hRl := hFH.d.lo
  have hRr := hFH.d.ro
  cases c with
  | false =>
   repeat' (first|refine aE ?_|fail)
   refine aS (Le.frzAll (d := 6) (D := (List.range R.length).map fun k => k + aU) rfl (.imm (LdL.flt fun n hn => HZ (R := R) (by (repeat' (first|exact FamR.here|(apply FamR.cons;focus rfl)))) (fun k hk => List.mem_map.2 ⟨n * p.types.length + k,by rw [List.mem_range,hRl]; exact HD (List.mem_range.1 hn) hk,rfl⟩) hRl (List.mem_range.1 hn) hRr))) ?_
   refine aB rfl ⟨?_,(by (exact bZ _ _))⟩
   simp only [aP]
   have e1 : Bs p.types.length (aR p).length A = (List.range (aR p).length).map fun n => jQ p.types.length R n := List.map_congr_left fun n hn => (hFH.final w B hA (List.mem_range.1 hn)).symm
   rw [e1,sl,List.length_map,List.length_range,flat,flat,List.flatMap_map]
   rfl
  | true =>
   have hst := hFH.start
   repeat' (first|refine aE ?_|fail)
   refine dQ (σ := Nat × List (List Bool) × Bool) (fun s => s.2.1) [1,2,3,7,8] [0] (fun s => [(12,bv s.2.2),(13,iv (s.1 : Int))]) (fun s => []) (fun s => s.1 ≤ (aR p).length ∧ FU p.types (aR p) R s.2.1 s.2.2 (DF s.1 0)) (fun s => (aR p).length - s.1) (0,R,false) ⟨Nat.zero_le _,hst⟩ ?_
   rintro ⟨j,R1,c1⟩ ⟨hj,hS1⟩
   dsimp only at hj hS1
   have hl1 := hS1.d.lo
   try dsimp only
   by_cases hjn : j < (aR p).length
   ·have hnl := w.nl j hjn
    have hrl1 := dL hl1 hjn
    have hil := lU (nv := p.types.length) hjn
    repeat' (first|(apply aD;first|(apply u4 (k := 144) (R := R1) (avs0 := [bE p,dK (aR p)[j]!,iv (j : Int),.imm p.types.length (flat (oS 0 10) (List.range p.types.length)),iv 2,iv 10]) (b := j * p.types.length) (n1 := 0) (D := Ge (j * p.types.length)) (ws := []) (h := w7 p (aR p) w B j hjn R1 hS1.d) (rr' := sl lZ (oZ p.types (aR p) j (jQ p.types.length R1 j)));(case ha => rfl);(case hF => (repeat' (first|exact FamR.here|(apply FamR.cons;focus rfl))));(case hb => (rw [hrl1]; omega));(case hR => exact fun k hk => dF hl1 hjn (by rwa [hrl1] at hk));(case hD => exact fun k hk => CR (by rw [hrl1] at hk;omega));(case har => exact .cons (RnV.purI inferInstance) (.cons (RnV.purI inferInstance) (.cons (RnV.purI inferInstance) (.cons (.imm (rn_rows fun k hk => (by rw [Nat.zero_add,iA (by rw [hrl1]; exact hk)]))) (.cons (RnV.purI inferInstance) (.cons (RnV.purI inferInstance) .nil))))));(case hk => rfl);(case hr => exact RnV.purI inferInstance);(case hw => exact trivial);(case hM|hN => rfl))|(apply j6;rfl;rfl;(assumption);rfl;infer_instance;infer_instance;rfl))|refine aE ?_|(refine aM ?_ ?_ <;> intro hc hq <;> try (exfalso;omega))|refine cE ?_|fail)
    refine dQ (σ := Nat × List (List Bool) × Bool) (fun s => s.2.1) [1,2,3,7,8,13,14] [0] (fun s => [(12,bv s.2.2),(15,iv (s.1 : Int))]) (fun s => []) (fun s => s.1 ≤ (aR p)[j]!.next.length ∧ FU p.types (aR p) R s.2.1 s.2.2 (DF j s.1) ∧ (s.2.2 = false → s.2.1 = R1)) (fun s => (aR p)[j]!.next.length - s.1) (0,R1,c1) ⟨Nat.zero_le _,hS1,fun _ => rfl⟩ ?_
    rintro ⟨kk,R2,c2⟩ ⟨hk,hS2,hc2⟩
    dsimp only at hk hS2 hc2
    have hl2 := hS2.d.lo
    have hr2 := hS2.d.ro
    try dsimp only
    by_cases hkn : kk < (aR p)[j]!.next.length
    ·have hnx := w.nx j hjn _ (aV _ _ hkn)
     have hnn : ((aR p)[j]!.next[kk]!).toNat < (aR p).length := by omega
     have hrl2 := dL hl2 hnn
     have hil2 := lU (nv := p.types.length) hnn
     have hM := wN (oZ p.types (aR p) j (jQ p.types.length R1 j)) (jQ p.types.length R2 ((aR p)[j]!.next[kk]!).toNat) p.types.length htl (k9 _ _ _ _) (fun v hv => mV hS1.d hjn hv) hrl2 (fun k hk => hS2.d.row hnn hk)
     repeat' (first|(apply aD;first|(apply AF (k := 145) (R := R2) (R' := Bt p.types.length R2 ((aR p)[j]!.next[kk]!).toNat (oZ p.types (aR p) j (jQ p.types.length R1 j))) (b := ((aR p)[j]!.next[kk]!).toNat * p.types.length) (h := hM);(case ha => rfl);(case hF => (repeat' (first|exact FamR.here|(apply FamR.cons;focus rfl))));(case hb => (rw [hrl2]; omega));(case hl1 => exact yE _ _);(case hl' => exact jG _ _ _ _);(case hR => exact fun k hk => dF hl2 hnn (by rwa [hrl2] at hk));(case hR1 => exact fun k hk => F6 hl2 hnn (by rwa [hrl2] at hk));(case hR2 => exact fun q hq h => Ee hq (by rwa [hrl2] at h));(case har => exact .cons (.imm (rn_rows fun k hk => (by rw [Nat.zero_add,iA (by rw [hrl2]; exact hk)]))) (.cons (RnV.purI inferInstance) .nil));(case hp|hN => rfl))|(apply mA;rfl;rfl;(assumption);rfl;infer_instance;infer_instance;rfl))|refine aE ?_|(refine aM ?_ ?_ <;> intro hc hq <;> try (exfalso;omega))|fail)
     ·(apply bX (kk + 1, Bt p.types.length R2 ((aR p)[j]!.next[kk]!).toNat (oZ p.types (aR p) j (jQ p.types.length R1 j)), true); focus (refine Le.renF0 [(0, 0)] (R := ?qA3) (hF := ?qF3) (hz := ?qz3) (hm := ?qm3) (hn := ?qn3) (h1 := ?q13) (h2 := ?q23); (case qF3 => (repeat' (first | exact FamR.here | (apply FamR.cons; focus rfl)))); (case qz3 => (simp only [jG]; done)); (case qm3 => rfl); (case qn3 => decide); all_goals (repeat' (first | exact trivial | refine And.intro ⟨_, rfl, ?_⟩ ?_ | refine And.intro ⟨_, _, rfl, rfl, ?_⟩ ?_ | exact RnL.purI inferInstance | exact RnV.purI inferInstance | exact RnV.optr rfl | exact RnV.imm (lV (by show aU + _ ≤ aU + R2.length; rw [hl2]; exact Nat.le_refl _))))))
      ·exact ⟨(by show kk + 1 ≤ (aR p)[j]!.next.length;omega),hS2.hit w B (DF j (kk + 1)) hS1.d hjn hkn (by assumption),fun h => (by cases h)⟩
      ·show (aR p)[j]!.next.length - (kk + 1) < (aR p)[j]!.next.length - kk;omega
     ·have hno : D0 (oZ p.types (aR p) j (jQ p.types.length R1 j)) (jQ p.types.length R2 ((aR p)[j]!.next[kk]!).toNat) = false := by assumption
      rw [Gv hl2 hr2 hnn (fun v hv => mV hS1.d hjn hv) hno]
      (apply bX (kk + 1,R2,c2);focus (refine Le.renF0 [(0,0)] (R := ?qA4) (hF := ?qF4) (hz := ?qz4) (hm := ?qm4) (hn := ?qn4) (h1 := ?q14) (h2 := ?q24);(case qF4 => (repeat' (first|exact FamR.here|(apply FamR.cons;focus rfl))));(case qz4 => (rfl));(case qm4 => rfl);(case qn4 => decide);all_goals (repeat' (first|exact trivial|refine And.intro ⟨_,rfl,?_⟩ ?_|refine And.intro ⟨_,_,rfl,rfl,?_⟩ ?_|exact RnL.purI inferInstance|exact RnV.purI inferInstance|exact RnV.optr rfl|exact RnV.imm (lV (by show aU + _ ≤ aU + R2.length;rw [hl2]; exact Nat.le_refl _))))))
      ·refine ⟨(by show kk + 1 ≤ (aR p)[j]!.next.length;omega),hS2.skip (i := j) (k := kk) hc2 hno (fun i' k' _ _ hd => by unfold DF at hd ⊢; omega),hc2⟩
      ·show (aR p)[j]!.next.length - (kk + 1) < (aR p)[j]!.next.length - kk;omega
    ·repeat' (first | refine aE ?_ | (refine aM ?_ ?_ <;> intro hc hq <;> try (exfalso; omega))|fail)
     (apply bX (j + 1,R2,c2);focus (refine Le.renF0 [(0,0)] (R := ?qA5) (hF := ?qF5) (hz := ?qz5) (hm := ?qm5) (hn := ?qn5) (h1 := ?q15) (h2 := ?q25);(case qF5 => (repeat' (first|exact FamR.here|(apply FamR.cons;focus rfl))));(case qz5 => (rfl));(case qm5 => rfl);(case qn5 => decide);all_goals (repeat' (first|exact trivial|refine And.intro ⟨_,rfl,?_⟩ ?_|refine And.intro ⟨_,_,rfl,rfl,?_⟩ ?_|exact RnL.purI inferInstance|exact RnV.purI inferInstance|exact RnV.optr rfl|exact RnV.imm (lV (by show aU + _ ≤ aU + R2.length;rw [hl2]; exact Nat.le_refl _))))))
     ·refine ⟨(by show j + 1 ≤ (aR p).length; omega), hS2.mono fun i' k' _ hk' hd => ?_⟩
      unfold DF at hd ⊢
      by_cases e : i' = j
      ·subst e;omega
      ·omega
     ·show (aR p).length - (j + 1) < (aR p).length - j;omega
   ·repeat' (first | refine aE ?_ | (refine aM ?_ ?_ <;> intro hc hq <;> try (exfalso; omega))|fail)
    (apply bX (R1,c1);focus (refine Le.renF0 [(0,0)] (R := ?qA6) (hF := ?qF6) (hz := ?qz6) (hm := ?qm6) (hn := ?qn6) (h1 := ?q16) (h2 := ?q26);(case qF6 => (repeat' (first|exact FamR.here|(apply FamR.cons;focus rfl))));(case qz6 => (rfl));(case qm6 => rfl);(case qn6 => decide);all_goals (repeat' (first|exact trivial|refine And.intro ⟨_,rfl,?_⟩ ?_|refine And.intro ⟨_,_,rfl,rfl,?_⟩ ?_|exact RnL.purI inferInstance|exact RnV.purI inferInstance|exact RnV.optr rfl|exact RnV.imm (lV (by show aU + _ ≤ aU + R1.length;rw [hl1]; exact Nat.le_refl _))))))
    ·exact (hS1.fin (by omega)).1
    ·exact (hS1.fin (by omega)).2
def BE (p : Prg) : List Pnt := if bK p = true then aR p else []
theorem Gt {p:Prg}:(BE p).length ≤ 61:=by
 unfold BE;split
 ·rename_i h;exact (WG.of_valid h).pl
 ·simp
theorem FZ {p:Prg}(hv:bK p = true) (a:Nat):PtN (aR p)[a]!:=by
 have wa := WA.of_valid hv
 by_cases h : a < (aR p).length
 ·exact ⟨fun e => (wa.a a h).n (.inr e)⟩
 ·refine ⟨fun e => ?_⟩
  rw [sU,dif_neg h] at e
  exact absurd e (by decide)
theorem GoodU.ex {ts:List Int}{pts:List Pnt}(B:WA ts pts):∃ A,GoodU ts pts A:=by
 obtain ⟨A,h1,h2⟩ := EZ (pts.length * 6) 10 (fun q l => Nm ts pts (q / 6,q % 6,l)) (fun q l _ h => BM B h)
 exact ⟨A,h1,fun i v hi hv l => by rw [h2 (i * 6 + v) (by omega) l,show (i * 6 + v) / 6 = i by omega,show (i * 6 + v) % 6 = v by omega]⟩
theorem FW (p:Prg) (i v:Int) (hl:p.types.length ≤ 1048576) (hs:aK p.body ≤ 1048576):∃ L:List Int,PC Tryz.prog 23 [bE p,iv i,iv v] (fun r => r = sl cI L) ∧ PC Tryz.prog 26 [bE p,iv i,iv v] (fun r => r = sl cI L) ∧ L.length ≤ 62:=by
 by_cases h : nV p i
 ·by_cases hv : 0 ≤ v ∧ v < p.types.length ∧ p.types[v.toNat]! = 1
  ·have w := WG.of_valid h.1
   have B := WA.of_valid h.1
   obtain ⟨A,hA⟩ := GoodU.ex B
   exact ⟨_,oF p i v A hl hs h hv hA,v7 p i v A hl hs h hv hA (z5 p A hs w B hA),bW _⟩
  ·exact ⟨[],vS p i v hl hs h hv,kT p i v hl hs (fun q => hv q.2),by simp⟩
 ·exact ⟨[],uL p i v hl hs h,kT p i v hl hs (fun q => h q.1),by simp⟩
theorem CS (p:Prg) (cs:List Int) (n:Nat) (hl:p.types.length ≤ 1048576) (hs:aK p.body ≤ 1048576) (hv:bK p = true) (h0:(iF p.types (aR p) cs n).2.1 = 0) (v:Nat) (hvl:v < p.types.length) :
  ∃ L : List Int,PC Tryz.prog 23 [bE p,iv (((BE p).length : Int) - 1),iv (v : Int)] (fun r => r = sl cI L) ∧ L.length ≤ 62 ∧ (p.types[v]! = 1 → (iF p.types (aR p) cs n).1.slots[v]!.set = true → (iF p.types (aR p) cs n).1.slots[v]!.num ∈ L) := by
 have w := WG.of_valid hv
 have B := WA.of_valid hv
 have hp0 := w.p0
 have htl := w.tl
 have e2 : BE p = aR p := by unfold BE;rw [if_pos hv]
 have hok : nV p (((BE p).length : Int) - 1) := by rw [e2]; exact ⟨hv,by omega,by omega⟩
 have hz : (((BE p).length : Int) - 1).toNat = (aR p).length - 1 := by rw [e2]; omega
 by_cases h1 : p.types[v]! = 1
 ·obtain ⟨A, hA⟩ := GoodU.ex B
  have hc := oF p _ (v : Int) A hl hs hok ⟨by omega,by omega,by rw [Int.toNat_natCast]; exact h1⟩ hA
  rw [hz,Int.toNat_natCast] at hc
  refine ⟨_,hc,bW _,fun _ hset => ?_⟩
  obtain ⟨k,e,hk,hm⟩ := CH w B (FZ hv) cs n h0 v hvl h1 hset
  rw [e]
  exact eB.2 ⟨k,by omega,(hA.2 _ v (by omega) (by omega) k).2 hm,rfl⟩
 ·obtain ⟨L, g1, _, g2⟩ := FW p (((BE p).length : Int) - 1) (v : Int) hl hs
  exact ⟨L,g1,g2,fun h => absurd h h1⟩
theorem Im (p:Prg) (cs:List Int) (n:Int) (hl:p.types.length ≤ 1048576) (hs:aK p.body ≤ 1048576) (hcl:cs.length ≤ 1048576):∃ S:List Sl,PC Tryz.prog 27 [bE p,sl cI cs,iv n] (fun r => r = .tup [sl cJ S,iv (Iv p cs n)]) ∧ S.length ≤ 62 ∧
  (Iv p cs n = 0 → S.length = p.types.length ∧ ∀ v : Nat,v < S.length → ∃ L : List Int,PC Tryz.prog 23 [bE p,iv (((BE p).length : Int) - 1),iv (v : Int)] (fun r => r = sl cI L) ∧ L.length ≤ 62 ∧ (p.types[v]! = 1 → S[v]!.set = true → S[v]!.num ∈ L)) := by
 have h1 := oX p cs n hl hs hcl
 unfold Iv
 by_cases h : DZ p n = true
 ·rw [if_pos h] at h1
  rw [if_pos h]
  obtain ⟨hv,h0,hn⟩ := Cu.1 h
  have hok := BF (cs := cs) (n := n.toNat) hv
  have htl := (WG.of_valid hv).tl
  exact ⟨_,h1,by rw [hok.l]; omega,fun h00 => ⟨hok.l,fun v hvl => CS p cs n.toNat hl hs hv h00 v (by rw [hok.l] at hvl;exact hvl)⟩⟩
 ·rw [if_neg h] at h1
  rw [if_neg h]
  exact ⟨_,h1,by simp,fun h' => by cases h'⟩
theorem o6 (bs ms:List UInt8):PC Tryz.prog 4 [sl cU bs,sl cU ms] (fun r => r = bv true):=by
 rcases Nat.lt_or_ge 1048576 bs.length with hb|hb
 ·refine aC Tryz.func4 Tryz.ntmps4 ?_
  repeat' (first|refine aE ?_|(refine bS ?_ ?_ <;> intro hg hq <;> try (exfalso;omega))|fail)
  all_goals exact aB rfl ⟨rfl,rfl⟩
 rcases Nat.lt_or_ge 1048576 ms.length with hm|hm
 ·refine aC Tryz.func4 Tryz.ntmps4 ?_
  repeat' (first|refine aE ?_|(refine aM ?_ ?_ <;> intro hc hq <;> try (exfalso;omega))|(refine bS ?_ ?_ <;> intro hg hq <;> try (exfalso;omega))|fail)
  all_goals exact aB rfl ⟨rfl,rfl⟩
 refine aC Tryz.func4 Tryz.ntmps4 ?_
 repeat' (first|(apply aD;first|(apply cV (k := 22);rfl;exact Af bs hb;exact Pur.pf;rfl;(rintro _ ⟨q,a,v,rfl,hq1,hq2,hq3,hq4⟩ _))|(with_reducible apply a5 (d := 34)))|refine aE ?_|(refine aM ?_ ?_ <;> intro hc hq <;> try (exfalso;omega))|(refine bS ?_ ?_ <;> intro hg hq <;> try (exfalso;omega))|fail)
 refine b8 ?_
 obtain ⟨L,h1,h2,hL⟩ := FW q a v (by omega) (by omega)
 have h3 := Ay q a v L h1 (by omega)
 have h4 := A4 q a v L h2 (by omega)
 have h5 := Cn L (by omega)
 have hP := Gt (p := q)
 generalize (if L.length = 1 then L[0]! else 0) = n0 at *
 repeat' (first|(apply aD;first|(apply aA (k := 23);rfl;exact h1;exact Pur.pf;rfl)|(apply aA (k := 26);rfl;exact h2;exact Pur.pf;rfl)|(apply aA (k := 24);rfl;exact h3;exact Pur.pf;rfl)|(apply aA (k := 25);rfl;exact h4;exact Pur.pf;rfl)|(apply aA (k := 21);rfl;exact h5;exact Pur.pf;rfl)|(apply cV (k := 17);rfl;exact Ai ms hm;exact Pur.pf;rfl;(rintro _ ⟨q',cs,n',rfl,hr1,hr2,hr3,hr4,hr5⟩ _))|(with_reducible apply a5 (d := 83)))|refine aE ?_|(refine aM ?_ ?_ <;> intro hc hq <;> try (exfalso;omega))|(refine bS ?_ ?_ <;> intro hg hq <;> try (exfalso;omega))|fail)
 all_goals first
  | (exfalso;exact (by assumption : ¬ True) trivial)
  | (exfalso;exact (by assumption : ¬ (decide (L.length = 1) = decide ((L.length : Int) = 1))) (decide_eq_decide.2 (by omega)))
  | refine b8 ?_
 obtain ⟨S,f1,hS,f2⟩ := Im q cs 100 (by omega) (by omega) (by omega)
 have f3 := tB q (by omega) (by omega)
 change PC _ _ _ (fun r => r = sl bM (BE q)) at f3
 generalize Iv q cs 100 = en at *
 generalize BE q = ps at *
 repeat' (first|(apply aD;first|(apply aA (k := 27);rfl;exact f1;exact Pur.pf;rfl)|(apply aA (k := 28);rfl;exact f3;exact Pur.pf;rfl))|refine aE ?_|fail)
 refine aL (σ := Nat) [5,16,17,18] [0] (fun k => [(19,iv (k : Int))]) (fun k => []) (fun k => k ≤ S.length) (fun k => S.length - k) (0) (Nat.zero_le _) ?_
 rintro k hk
 by_cases hkn : k < S.length
 ·by_cases he : en = 0
  ·obtain ⟨g0, g1⟩ := f2 he
   obtain ⟨M,m1,m2,m3⟩ := g1 k hkn
   have v1 := GN M S[k]!.num (by omega)
   repeat' (first|(apply aD;first|(apply aA (k := 23);rfl;exact m1;exact Pur.pf;rfl)|(apply aA (k := 29);rfl;exact v1;exact Pur.pf;rfl))|refine aE ?_|(refine aM ?_ ?_ <;> intro hc hq <;> try (exfalso;omega))|(refine bS ?_ ?_ <;> intro hg hq <;> try (exfalso;omega))|refine cE ?_|fail)
   all_goals first
    | (exfalso;exact (by assumption : ¬ S[k]!.num ∈ M) (m3 (by assumption) (by assumption)))
    | ((refine bX (k + 1) (Le.renA [(0, 0)]) ?_ ?_)
       ·omega
       ·omega)
  ·repeat' (first | refine aE ?_ | (refine aM ?_ ?_ <;> intro hc hq <;> try (exfalso; omega)) | (refine bS ?_ ?_ <;> intro hg hq <;> try (exfalso; omega))|fail)
   all_goals exact aB rfl ⟨rfl,rfl⟩
 ·repeat' (first | refine aE ?_ | (refine bS ?_ ?_ <;> intro hg hq <;> try (exfalso; omega))|fail)
  all_goals exact aB rfl ⟨rfl,rfl⟩
end Go.Proofs.YtahdccneecdmmaaGreat
