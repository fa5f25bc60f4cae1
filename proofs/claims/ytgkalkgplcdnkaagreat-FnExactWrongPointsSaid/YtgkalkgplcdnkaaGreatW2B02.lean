/-
 A part of the proofs over this program: rules and contracts of its functions (the contracts).
-/
import Derived.Test.YtgkalkgplcdnkaaGreatW2B01
set_option linter.unusedVariables false
set_option linter.unusedSimpArgs false
set_option maxHeartbeats 8000000
set_option maxRecDepth 4000
attribute [local irreducible] Go.AL.RW Go.AL.AW Go.AL.Stop
namespace Go.Proofs.YtgkalkgplcdnkaaGreat
open Go.AL Go.RowKit
variable {N : Nat} {Q : Exit → AS → Prop} {all : Array Oper} {rest : List Oper} {tsl : List (Nat × AV)} {hsl : List (Nat × Option (List AV))} {nidl : Nat} {z0 : Lo} {md : Md} {d : Nat} {ty : TypeId} {pos : String} {af : Array Edge} {tys : Array TypeId}
abbrev eD (s : Mc) : AV := .agg [sl cG s.slots,sl a8 s.cells,sl cI s.read]
theorem rF {xs:List Sl}{k:Nat}{a:Bool}{b c d:Int}(hk:k < xs.length):eR (aA cG xs) (0 + k * 4) [bv a,iv b,iv c,iv d] = aA cG (xs.set k ⟨a,b,⟨c,d⟩⟩) := hG hk rfl
theorem mJ (s:Mc) (v:Nat) (hv:v < s.slots.length) (hl:s.slots.length ≤ 1048576):PC Tryz.prog 191 [eD s,iv (v:Int)] (fun r => r = eD ⟨s.slots.set v eG,s.cells,s.read⟩):=by
 refine aD Tryz.func191 Tryz.ntmps191 ?_
 repeat' (first|(apply aF;(apply bC;rfl;rfl;rfl;rfl;rfl;(case hl => (first|(rw [aI]; simp only [kH] <;> omega)|(simp;done)));(exact rF (by (assumption)))))|refine aE ?_|fail)
 refine bD (Le.frzC (j := 1) (i := 3) [] rfl rfl (by decide)) ?_
 have e : AV.imm (0 + s.slots.length) (aA cG (s.slots.set v eG)) = sl cG (s.slots.set v eG) := dI (by rw [List.length_set,Nat.zero_add])
 refine aC (l := [.agg [.imm (0 + s.slots.length) (aA cG (s.slots.set v eG)),sl a8 s.cells,sl cI s.read]]) rfl ?_
 rw [e]
 exact ⟨rfl,by exact Pur.pf⟩
theorem DV (k:Int):(if gM k = -1 then (0:Int) else gM k) = if k = 1 then 3 else if k = 0 then 0 else 4:=by
 unfold gM c6
 by_cases h : k = 0
 ·subst h;rfl
 ·rw [if_neg h, if_neg h]
  by_cases h1 : k = 1
  ·rw [if_pos h1]; rfl
  ·rw [if_neg h1]; rfl
theorem iI (ts:List Int) (s:Mc) (v:Nat) (y:Sl) (hm:OkM s.cells) (hv:v < s.slots.length) (hvt:v < ts.length) (hl:s.slots.length ≤ 1048576):PC Tryz.prog 192 [sl cI ts,eD s,iv (v:Int),Dy y] (fun r => r = .tup [eD (a7 ts s v y).1,iv (if (a7 ts s v y).2 = -1 then 0 else (a7 ts s v y).2)]):=by
 have hfc := jF s.cells hm s.slots[v]!.ptr
 refine aD Tryz.func192 Tryz.ntmps192 ?_
 repeat' (first|(apply aF;first|(apply aB (k := 189);rfl;exact hfc;exact Pur.pf;rfl)|(apply bC;rfl;rfl;rfl;rfl;rfl;(case hl => (first|(rw [aI]; simp only [kH] <;> omega)|(simp;done)));(exact rF (by (assumption))))|(apply aB (k := 190);rfl;(apply hZ);(rfl);rfl))|refine aE ?_|(refine aL ?_ ?_ <;> intro hc hq <;> try (exfalso;omega))|(refine cS ?_ ?_ <;> intro hg hq <;> try (exfalso;omega))|refine cC ?_|fail)
 all_goals (
  refine bD (Le.frzC (j := 2) (i := 4) [] rfl rfl (by decide)) ?_
  have e : AV.imm (0 + s.slots.length) (aA cG (s.slots.set v y)) = sl cG (s.slots.set v y) := dI (by rw [List.length_set,Nat.zero_add]))
 ·have hp : a7 ts s v y = (⟨s.slots.set v y, eU s.cells s.slots[v]!.ptr, s.read⟩, gM (aS s.cells s.slots[v]!.ptr true)) := if_pos ⟨by assumption, by assumption⟩
  refine aC (l := [.agg [.imm (0 + s.slots.length) (aA cG (s.slots.set v y)),sl a8 (eU s.cells s.slots[v]!.ptr),sl cI s.read],iv (if aS s.cells s.slots[v]!.ptr true = 1 then 3 else if aS s.cells s.slots[v]!.ptr true = 0 then 0 else 4)]) rfl ?_
  rw [e,hp]
  dsimp only
  rw [DV]
  exact ⟨rfl,by exact Pur.pf⟩
 all_goals (
  have hp : a7 ts s v y = (⟨s.slots.set v y, s.cells, s.read⟩, -1) := if_neg (by
   rintro ⟨q1,q2⟩
   first|(exact (by assumption : ¬ ts[v]! = 2) q1)|(rw [(by assumption : s.slots[v]!.set = false)] at q2;exact absurd q2 (by decide)))
  refine aC (l := [.agg [.imm (0 + s.slots.length) (aA cG (s.slots.set v y)),sl a8 s.cells,sl cI s.read],iv 0]) rfl ?_
  rw [e,hp]
  exact ⟨rfl,by exact Pur.pf⟩)
def gk (e : Int) : Int := if e = -1 then 0 else e
theorem Gp {t:Int}(h:t = 2 ∨ t = 4):tI t = true:=by
 unfold tI;rcases h with h|h <;> subst h <;> rfl
theorem Ib {t:Int}(h:¬ t = 2) (h2:¬ t = 4):¬ tI t = true:=by
 unfold tI;rw [decide_eq_false h,decide_eq_false h2]; decide
theorem rM {k:Int}(h:¬ k = 0):(if k = 1 then (3:Int) else if k = 0 then 0 else 4) = c6 k:=by
 unfold c6;rw [if_neg h]
theorem Gh {m:List Cl}{x:Pt}{u:Bool}(h:¬ gX m x u = 0):fY m x u = m := by unfold fY;rw [if_neg h]
theorem CI (ts:List Int) (s:Mc) (x:Pnt) (hm:OkM s.cells) (hsl:s.slots.length = ts.length) (hx:0 ≤ x.x ∧ x.x < ts.length) (hy:0 ≤ x.y ∧ x.y < ts.length) (hl:ts.length ≤ 1048576):PC Tryz.prog 194 [sl cI ts,eD s,dV x] (fun r => r = .tup [eD (a7 ts (if tI ts[x.y.toNat]! = true then ⟨s.slots.set x.y.toNat eG,s.cells,s.read⟩ else s) x.x.toNat s.slots[x.y.toNat]!).1,iv (gk (a7 ts (if tI ts[x.y.toNat]! = true then ⟨s.slots.set x.y.toNat eG,s.cells,s.read⟩ else s) x.x.toNat s.slots[x.y.toNat]!).2)]):=by
 have hcl := mJ s x.y.toNat (by omega) (by omega)
 have hp1 := iI ts ⟨s.slots.set x.y.toNat eG,s.cells,s.read⟩ x.x.toNat s.slots[x.y.toNat]! hm (by show _ < (s.slots.set x.y.toNat eG).length;rw [List.length_set]; omega) (by omega) (by show (s.slots.set x.y.toNat eG).length ≤ _; rw [List.length_set]; omega)
 have hp2 := iI ts s x.x.toNat s.slots[x.y.toNat]! hm (by omega) (by omega) (by omega)
 rw [Int.toNat_of_nonneg hy.1] at hcl
 rw [Int.toNat_of_nonneg hx.1] at hp1 hp2
 refine aD Tryz.func194 Tryz.ntmps194 ?_
 repeat' (first|(apply aF;first|(apply aB (k := 191);rfl;exact hcl;exact Pur.pf;rfl)|(apply aB (k := 192);rfl;(first|exact hp1|exact hp2);exact Pur.pf;rfl))|refine aE ?_|(refine aL ?_ ?_ <;> intro hc hq <;> try (exfalso;omega))|(refine cS ?_ ?_ <;> intro hg hq <;> try (exfalso;omega))|fail)
 ·refine aC (l := [eD (a7 ts ⟨s.slots.set x.y.toNat eG, s.cells, s.read⟩ x.x.toNat s.slots[x.y.toNat]!).1, iv (gk (a7 ts ⟨s.slots.set x.y.toNat eG, s.cells, s.read⟩ x.x.toNat s.slots[x.y.toNat]!).2)]) rfl ⟨?_, by exact Pur.pf⟩
  rw [if_pos (Gp (.inr (by assumption)))]; rfl
 ·refine aC (l := [eD (a7 ts s x.x.toNat s.slots[x.y.toNat]!).1, iv (gk (a7 ts s x.x.toNat s.slots[x.y.toNat]!).2)]) rfl ⟨?_, by exact Pur.pf⟩
  rw [if_neg (Ib (by assumption) (by assumption))]; rfl
 ·refine aC (l := [eD (a7 ts ⟨s.slots.set x.y.toNat eG, s.cells, s.read⟩ x.x.toNat s.slots[x.y.toNat]!).1, iv (gk (a7 ts ⟨s.slots.set x.y.toNat eG, s.cells, s.read⟩ x.x.toNat s.slots[x.y.toNat]!).2)]) rfl ⟨?_, by exact Pur.pf⟩
  rw [if_pos (Gp (.inl (by assumption)))]; rfl
theorem Ch (ts:List Int) (s:Mc) (x:Pnt) (u:Bool) (hu:u = decide (x.op = 5)) (hm:OkM s.cells) (hsl:s.slots.length = ts.length) (hx:0 ≤ x.x ∧ x.x < ts.length) (hy:0 ≤ x.y ∧ x.y < ts.length) (hl:ts.length ≤ 1048576):PC Tryz.prog 195 [sl cI ts,eD s,dV x] (fun r => r = if gX s.cells s.slots[x.y.toNat]!.ptr u = 0 then
  .tup [eD (a7 ts ⟨s.slots,fY s.cells s.slots[x.y.toNat]!.ptr u,s.read⟩ x.x.toNat ⟨true,0,lQ s.cells s.slots[x.y.toNat]!.ptr u⟩).1,iv (gk (a7 ts ⟨s.slots,fY s.cells s.slots[x.y.toNat]!.ptr u,s.read⟩ x.x.toNat ⟨true,0,lQ s.cells s.slots[x.y.toNat]!.ptr u⟩).2)]
  else .tup [eD s,iv (c6 (gX s.cells s.slots[x.y.toNat]!.ptr u))]) := by
 have hsh := tL s.cells hm s.slots[x.y.toNat]!.ptr
 have hbo := p9 s.cells hm s.slots[x.y.toNat]!.ptr
 have hp1 := iI ts ⟨s.slots,fY s.cells s.slots[x.y.toNat]!.ptr false,s.read⟩ x.x.toNat ⟨true,0,lQ s.cells s.slots[x.y.toNat]!.ptr false⟩ (hm.ln _ _) (by show _ < s.slots.length;omega) (by omega) (by show s.slots.length ≤ _; omega)
 have hp2 := iI ts ⟨s.slots,fY s.cells s.slots[x.y.toNat]!.ptr true,s.read⟩ x.x.toNat ⟨true,0,lQ s.cells s.slots[x.y.toNat]!.ptr true⟩ (hm.ln _ _) (by show _ < s.slots.length;omega) (by omega) (by show s.slots.length ≤ _; omega)
 rw [Int.toNat_of_nonneg hx.1] at hp1 hp2
 refine aD Tryz.func195 Tryz.ntmps195 ?_
 repeat' (first|(apply aF;first|(apply aB (k := 214);rfl;exact hsh;exact Pur.pf;rfl)|(apply aB (k := 215);rfl;exact hbo;exact Pur.pf;rfl)|(apply aB (k := 192) (avs := [sl cI ts,eD ⟨s.slots,fY s.cells s.slots[x.y.toNat]!.ptr false,s.read⟩,iv x.x,Dy ⟨true,0,lQ s.cells s.slots[x.y.toNat]!.ptr false⟩]);rfl;exact hp1;exact Pur.pf;rfl)|(apply aB (k := 192) (avs := [sl cI ts,eD ⟨s.slots,fY s.cells s.slots[x.y.toNat]!.ptr true,s.read⟩,iv x.x,Dy ⟨true,0,lQ s.cells s.slots[x.y.toNat]!.ptr true⟩]);rfl;exact hp2;exact Pur.pf;rfl)|(apply aB (k := 190);rfl;(apply hZ);(rfl);rfl))|refine aE ?_|(refine aL ?_ ?_ <;> intro hc hq <;> try (exfalso;omega))|refine cC ?_|fail)
 ·have hk : ¬ gX s.cells s.slots[x.y.toNat]!.ptr true = 0 := by assumption
  have hu2 : u = true := by rw [hu]; exact decide_eq_true (by assumption)
  subst hu2
  refine aC (l := [.agg [sl cG s.slots,sl a8 (fY s.cells s.slots[x.y.toNat]!.ptr true),sl cI s.read],iv (if gX s.cells s.slots[x.y.toNat]!.ptr true = 1 then 3 else if gX s.cells s.slots[x.y.toNat]!.ptr true = 0 then 0 else 4)]) rfl ?_
  rw [rM hk,if_neg hk,Gh hk]
  exact ⟨rfl,by exact Pur.pf⟩
 ·have hk : gX s.cells s.slots[x.y.toNat]!.ptr true = 0 := by assumption
  have hu2 : u = true := by rw [hu]; exact decide_eq_true (by assumption)
  subst hu2
  refine aC (l := [eD (a7 ts ⟨s.slots,fY s.cells s.slots[x.y.toNat]!.ptr true,s.read⟩ x.x.toNat ⟨true,0,lQ s.cells s.slots[x.y.toNat]!.ptr true⟩).1,iv (gk (a7 ts ⟨s.slots,fY s.cells s.slots[x.y.toNat]!.ptr true,s.read⟩ x.x.toNat ⟨true,0,lQ s.cells s.slots[x.y.toNat]!.ptr true⟩).2)]) rfl ⟨?_,by exact Pur.pf⟩
  rw [if_pos hk]; rfl
 ·have hk : ¬ gX s.cells s.slots[x.y.toNat]!.ptr false = 0 := by assumption
  have hu2 : u = false := by rw [hu]; exact decide_eq_false (by assumption)
  subst hu2
  refine aC (l := [.agg [sl cG s.slots,sl a8 (fY s.cells s.slots[x.y.toNat]!.ptr false),sl cI s.read],iv (if gX s.cells s.slots[x.y.toNat]!.ptr false = 1 then 3 else if gX s.cells s.slots[x.y.toNat]!.ptr false = 0 then 0 else 4)]) rfl ?_
  rw [rM hk,if_neg hk,Gh hk]
  exact ⟨rfl,by exact Pur.pf⟩
 ·have hk : gX s.cells s.slots[x.y.toNat]!.ptr false = 0 := by assumption
  have hu2 : u = false := by rw [hu]; exact decide_eq_false (by assumption)
  subst hu2
  refine aC (l := [eD (a7 ts ⟨s.slots,fY s.cells s.slots[x.y.toNat]!.ptr false,s.read⟩ x.x.toNat ⟨true,0,lQ s.cells s.slots[x.y.toNat]!.ptr false⟩).1,iv (gk (a7 ts ⟨s.slots,fY s.cells s.slots[x.y.toNat]!.ptr false,s.read⟩ x.x.toNat ⟨true,0,lQ s.cells s.slots[x.y.toNat]!.ptr false⟩).2)]) rfl ⟨?_,by exact Pur.pf⟩
  rw [if_pos hk]; rfl
theorem HC (ts:List Int) (s:Mc) (x:Pnt) (ho:x.op = 1) (hm:OkM s.cells) (hsl:s.slots.length = ts.length) (hx:0 ≤ x.x ∧ x.x < ts.length) (hl:ts.length ≤ 1048576):PC Tryz.prog 161 [sl cI ts,eD s,dV x] (fun r => r = .tup [eD (bE ts s x).1,iv (gk (bE ts s x).2)]):=by
 have hp := iI ts s x.x.toNat ⟨true,x.n,⟨0,0⟩⟩ hm (by omega) (by omega) (by omega)
 rw [Int.toNat_of_nonneg hx.1] at hp
 have hd : bE ts s x = a7 ts s x.x.toNat ⟨true,x.n,⟨0,0⟩⟩ := by unfold bE;rw [if_pos ho]
 rw [hd]
 refine aD Tryz.func161 Tryz.ntmps161 ?_
 repeat' (first|(apply aF;(apply aB (k := 192) (avs := [sl cI ts,eD s,iv x.x,Dy ⟨true,x.n,⟨0,0⟩⟩]);rfl;exact hp;exact Pur.pf;rfl))|refine aE ?_|(refine aL ?_ ?_ <;> intro hc hq <;> try (exfalso;omega))|fail)
 exact aC (l := [eD (a7 ts s x.x.toNat ⟨true,x.n,⟨0,0⟩⟩).1,iv (gk (a7 ts s x.x.toNat ⟨true,x.n,⟨0,0⟩⟩).2)]) rfl ⟨rfl,by exact Pur.pf⟩
theorem GG (ts:List Int) (s:Mc) (x:Pnt) (ho:x.op = 2) (hm:OkM s.cells) (hsl:s.slots.length = ts.length) (hx:0 ≤ x.x ∧ x.x < ts.length) (hn:0 ≤ x.n ∧ x.n ≤ 9) (hl:ts.length ≤ 1048576):PC Tryz.prog 161 [sl cI ts,eD s,dV x] (fun r => r = .tup [eD (bE ts s x).1,iv (gk (bE ts s x).2)]):=by
 have hml := hm.l
 have hnc := xS s.cells hm x.n
 by_cases h2 : s.cells.length = 200
 ·rw [if_neg (by omega)] at hnc
  have hd : bE ts s x = (s,1) := by unfold bE;rw [if_neg (by omega),if_pos ho,if_pos h2]
  rw [hd]
  refine aD Tryz.func161 Tryz.ntmps161 ?_
  repeat' (first|(apply aF;(apply aB (k := 193);rfl;exact hnc;exact Pur.pf;rfl))|refine aE ?_|(refine aL ?_ ?_ <;> intro hc hq <;> try (exfalso;omega))|fail)
  exact aC (l := [eD s,iv 1]) rfl ⟨rfl,by exact Pur.pf⟩
 ·rw [if_pos (by omega)] at hnc
  have hp := iI ts ⟨s.slots,s.cells ++ [kX x.n],s.read⟩ x.x.toNat ⟨true,0,⟨s.cells.length,0⟩⟩ (hm.nw hn (by omega)) (by show _ < s.slots.length;omega) (by omega) (by show s.slots.length ≤ _; omega)
  rw [Int.toNat_of_nonneg hx.1] at hp
  have hd : bE ts s x = a7 ts ⟨s.slots,s.cells ++ [kX x.n],s.read⟩ x.x.toNat ⟨true,0,⟨s.cells.length,0⟩⟩ := by unfold bE;rw [if_neg (by omega),if_pos ho,if_neg h2]
  rw [hd]
  refine aD Tryz.func161 Tryz.ntmps161 ?_
  repeat' (first|(apply aF;first|(apply aB (k := 193);rfl;exact hnc;exact Pur.pf;rfl)|(apply aB (k := 192) (avs := [sl cI ts,eD ⟨s.slots,s.cells ++ [kX x.n],s.read⟩,iv x.x,Dy ⟨true,0,⟨s.cells.length,0⟩⟩]);rfl;exact hp;exact Pur.pf;rfl))|refine aE ?_|(refine aL ?_ ?_ <;> intro hc hq <;> try (exfalso;omega))|fail)
  exact aC (l := [eD (a7 ts ⟨s.slots,s.cells ++ [kX x.n],s.read⟩ x.x.toNat ⟨true,0,⟨s.cells.length,0⟩⟩).1,iv (gk (a7 ts ⟨s.slots,s.cells ++ [kX x.n],s.read⟩ x.x.toNat ⟨true,0,⟨s.cells.length,0⟩⟩).2)]) rfl ⟨rfl,by exact Pur.pf⟩
theorem GZ (ts:List Int) (s:Mc) (x:Pnt) (ho:x.op = 3) (hm:OkM s.cells) (hsl:s.slots.length = ts.length) (hx:0 ≤ x.x ∧ x.x < ts.length) (hy:0 ≤ x.y ∧ x.y < ts.length) (hl:ts.length ≤ 1048576):PC Tryz.prog 161 [sl cI ts,eD s,dV x] (fun r => r = .tup [eD (bE ts s x).1,iv (gk (bE ts s x).2)]):=by
 have hmv := CI ts s x hm hsl hx hy hl
 have hd : bE ts s x = a7 ts (if tI ts[x.y.toNat]! = true then ⟨s.slots.set x.y.toNat eG,s.cells,s.read⟩ else s) x.x.toNat s.slots[x.y.toNat]! := by unfold bE;rw [if_neg (by omega),if_neg (by omega),if_pos ho]
 rw [← hd] at hmv
 refine aD Tryz.func161 Tryz.ntmps161 ?_
 repeat' (first|(apply aF;(apply aB (k := 194);rfl;exact hmv;exact Pur.pf;rfl))|refine aE ?_|(refine aL ?_ ?_ <;> intro hc hq <;> try (exfalso;omega))|fail)
 exact aC (l := [eD (bE ts s x).1,iv (gk (bE ts s x).2)]) rfl ⟨rfl,by exact Pur.pf⟩
theorem Fg (ts:List Int) (s:Mc) (x:Pnt) (ho:x.op = 4 ∨ x.op = 5) (hm:OkM s.cells) (hsl:s.slots.length = ts.length) (hx:0 ≤ x.x ∧ x.x < ts.length) (hy:0 ≤ x.y ∧ x.y < ts.length) (hl:ts.length ≤ 1048576):PC Tryz.prog 161 [sl cI ts,eD s,dV x] (fun r => r = .tup [eD (bE ts s x).1,iv (gk (bE ts s x).2)]):=by
 have hmk := Ch ts s x (decide (x.op = 5)) rfl hm hsl hx hy hl
 have h0 : bE ts s x = (if gX s.cells s.slots[x.y.toNat]!.ptr (decide (x.op = 5)) = 0 then a7 ts ⟨s.slots, fY s.cells s.slots[x.y.toNat]!.ptr (decide (x.op = 5)), s.read⟩ x.x.toNat ⟨true, 0, lQ s.cells s.slots[x.y.toNat]!.ptr (decide (x.op = 5))⟩
   else (s,c6 (gX s.cells s.slots[x.y.toNat]!.ptr (decide (x.op = 5))))) := by
  unfold bE;rw [if_neg (show ¬ x.op = 1 by omega),if_neg (show ¬ x.op = 2 by omega),if_neg (show ¬ x.op = 3 by omega),if_pos ho]
 have hd : ∀ r, (r = if gX s.cells s.slots[x.y.toNat]!.ptr (decide (x.op = 5)) = 0 then
   AV.tup [eD (a7 ts ⟨s.slots,fY s.cells s.slots[x.y.toNat]!.ptr (decide (x.op = 5)),s.read⟩ x.x.toNat ⟨true,0,lQ s.cells s.slots[x.y.toNat]!.ptr (decide (x.op = 5))⟩).1,iv (gk (a7 ts ⟨s.slots,fY s.cells s.slots[x.y.toNat]!.ptr (decide (x.op = 5)),s.read⟩ x.x.toNat ⟨true,0,lQ s.cells s.slots[x.y.toNat]!.ptr (decide (x.op = 5))⟩).2)]
   else AV.tup [eD s,iv (c6 (gX s.cells s.slots[x.y.toNat]!.ptr (decide (x.op = 5))))]) = (r = AV.tup [eD (bE ts s x).1,iv (gk (bE ts s x).2)]) := by
  intro r
  rw [h0]
  by_cases hk : gX s.cells s.slots[x.y.toNat]!.ptr (decide (x.op = 5)) = 0
  ·rw [if_pos hk,if_pos hk]
  ·rw [if_neg hk, if_neg hk]
   have : ∀ k,gk (c6 k) = c6 k := fun k => by unfold gk c6;split <;> rfl
   dsimp only
   rw [this]
 simp only [hd] at hmk
 refine aD Tryz.func161 Tryz.ntmps161 ?_
 repeat' (first|(apply aF;(apply aB (k := 195);rfl;exact hmk;exact Pur.pf;rfl))|refine aE ?_|(refine aL ?_ ?_ <;> intro hc hq <;> try (exfalso;omega))|fail)
 all_goals exact aC (l := [eD (bE ts s x).1,iv (gk (bE ts s x).2)]) rfl ⟨rfl,by exact Pur.pf⟩
theorem Ho (ts:List Int) (s:Mc) (x:Pnt) (ho:x.op = 6) (hm:OkM s.cells) (hsl:s.slots.length = ts.length) (hx:0 ≤ x.x ∧ x.x < ts.length) (hy:0 ≤ x.y ∧ x.y < ts.length) (hl:ts.length ≤ 1048576) (hrl:s.read.length ≤ 1048576):PC Tryz.prog 161 [sl cI ts,eD s,dV x] (fun r => r = .tup [eD (bE ts s x).1,iv (gk (bE ts s x).2)]):=by
 have hrd := mY s.cells hm s.slots[x.y.toNat]!.ptr
 have h0 : bE ts s x = (if aS s.cells s.slots[x.y.toNat]!.ptr false = 0 then a7 ts ⟨s.slots, bX s.cells s.slots[x.y.toNat]!.ptr false, s.read ++ [kJ s.cells s.slots[x.y.toNat]!.ptr]⟩ x.x.toNat ⟨true, kJ s.cells s.slots[x.y.toNat]!.ptr, ⟨0, 0⟩⟩
   else (s,c6 (aS s.cells s.slots[x.y.toNat]!.ptr false))) := by
  unfold bE;rw [if_neg (show ¬ x.op = 1 by omega),if_neg (show ¬ x.op = 2 by omega),if_neg (show ¬ x.op = 3 by omega),if_neg (show ¬ (x.op = 4 ∨ x.op = 5) by omega),if_pos ho]
 have hp := iI ts ⟨s.slots,bX s.cells s.slots[x.y.toNat]!.ptr false,s.read ++ [kJ s.cells s.slots[x.y.toNat]!.ptr]⟩ x.x.toNat ⟨true,kJ s.cells s.slots[x.y.toNat]!.ptr,⟨0,0⟩⟩ (hm.tch _ _) (by show _ < s.slots.length;omega) (by omega) (by show s.slots.length ≤ _; omega)
 rw [Int.toNat_of_nonneg hx.1] at hp
 by_cases hk : aS s.cells s.slots[x.y.toNat]!.ptr false = 0
 ·rw [if_pos hk] at h0
  rw [h0]
  refine aD Tryz.func161 Tryz.ntmps161 ?_
  repeat' (first|(apply aF;first|(apply aB (k := 196);rfl;exact hrd;exact Pur.pf;rfl)|(with_reducible apply a6 (d := 105)))|refine aE ?_|(refine aL ?_ ?_ <;> intro hc hq <;> try (exfalso;omega))|refine cC ?_|fail)
  refine b7 (fK ?_ (Le.frzC (j := 0) (i := 6) [sl cG s.slots,sl a8 (bX s.cells s.slots[x.y.toNat]!.ptr false)] (m := 0 + s.read.length + 1) (d := aA cI (s.read ++ [kJ s.cells s.slots[x.y.toNat]!.ptr])) rfl rfl (by decide)))
  have e : AV.imm (0 + s.read.length + 1) (aA cI (s.read ++ [kJ s.cells s.slots[x.y.toNat]!.ptr])) = sl cI (s.read ++ [kJ s.cells s.slots[x.y.toNat]!.ptr]) := dI (by rw [Nat.zero_add,List.length_append]; rfl)
  rw [e]
  repeat' (first|(apply aF;(apply aB (k := 192) (avs := [sl cI ts,eD ⟨s.slots,bX s.cells s.slots[x.y.toNat]!.ptr false,s.read ++ [kJ s.cells s.slots[x.y.toNat]!.ptr]⟩,iv x.x,Dy ⟨true,kJ s.cells s.slots[x.y.toNat]!.ptr,⟨0,0⟩⟩]);rfl;exact hp;exact Pur.pf;rfl))|refine aE ?_|fail)
  exact aC (l := [eD (a7 ts ⟨s.slots,bX s.cells s.slots[x.y.toNat]!.ptr false,s.read ++ [kJ s.cells s.slots[x.y.toNat]!.ptr]⟩ x.x.toNat ⟨true,kJ s.cells s.slots[x.y.toNat]!.ptr,⟨0,0⟩⟩).1,iv (gk (a7 ts ⟨s.slots,bX s.cells s.slots[x.y.toNat]!.ptr false,s.read ++ [kJ s.cells s.slots[x.y.toNat]!.ptr]⟩ x.x.toNat ⟨true,kJ s.cells s.slots[x.y.toNat]!.ptr,⟨0,0⟩⟩).2)]) rfl ⟨rfl,by exact Pur.pf⟩
 ·rw [if_neg hk] at h0
  rw [h0]
  have e4 : bX s.cells s.slots[x.y.toNat]!.ptr false = s.cells := by unfold bX;rw [if_neg hk]
  rw [e4] at hrd
  refine aD Tryz.func161 Tryz.ntmps161 ?_
  repeat' (first|(apply aF;first|(apply aB (k := 196);rfl;exact hrd;exact Pur.pf;rfl)|(apply aB (k := 190);rfl;(apply hZ);(rfl);rfl))|refine aE ?_|(refine aL ?_ ?_ <;> intro hc hq <;> try (exfalso;omega))|refine cC ?_|fail)
  refine aC (l := [eD s,iv (if aS s.cells s.slots[x.y.toNat]!.ptr false = 1 then 3 else if aS s.cells s.slots[x.y.toNat]!.ptr false = 0 then 0 else 4)]) rfl ?_
  rw [rM hk]
  have : ∀ k,gk (c6 k) = c6 k := fun k => by unfold gk c6;split <;> rfl
  dsimp only
  rw [this]
  exact ⟨rfl,by exact Pur.pf⟩
theorem HF (ts:List Int) (s:Mc) (x:Pnt) (ho:x.op = 7) (hm:OkM s.cells) (hsl:s.slots.length = ts.length) (hx:0 ≤ x.x ∧ x.x < ts.length) (hy:0 ≤ x.y ∧ x.y < ts.length) (hl:ts.length ≤ 1048576):PC Tryz.prog 161 [sl cI ts,eD s,dV x] (fun r => r = .tup [eD (bE ts s x).1,iv (gk (bE ts s x).2)]):=by
 have hwr := sF s.cells hm s.slots[x.x.toNat]!.ptr s.slots[x.y.toNat]!.num
 have h0 : bE ts s x = (⟨s.slots, k3 s.cells s.slots[x.x.toNat]!.ptr s.slots[x.y.toNat]!.num, s.read⟩, gM (lO s.cells s.slots[x.x.toNat]!.ptr s.slots[x.y.toNat]!.num)) := by
  unfold bE;rw [if_neg (show ¬ x.op = 1 by omega),if_neg (show ¬ x.op = 2 by omega),if_neg (show ¬ x.op = 3 by omega),if_neg (show ¬ (x.op = 4 ∨ x.op = 5) by omega),if_neg (show ¬ x.op = 6 by omega),if_pos ho]
 rw [h0]
 refine aD Tryz.func161 Tryz.ntmps161 ?_
 repeat' (first|(apply aF;first|(apply aB (k := 197);rfl;exact hwr;exact Pur.pf;rfl)|(apply aB (k := 190);rfl;(apply hZ);(rfl);rfl))|refine aE ?_|(refine aL ?_ ?_ <;> intro hc hq <;> try (exfalso;omega))|refine cC ?_|fail)
 refine aC (l := [eD ⟨s.slots,k3 s.cells s.slots[x.x.toNat]!.ptr s.slots[x.y.toNat]!.num,s.read⟩,iv (if lO s.cells s.slots[x.x.toNat]!.ptr s.slots[x.y.toNat]!.num = 1 then 3 else if lO s.cells s.slots[x.x.toNat]!.ptr s.slots[x.y.toNat]!.num = 0 then 0 else 4)]) rfl ?_
 rw [← DV]
 exact ⟨rfl,by exact Pur.pf⟩
theorem Hw (ts:List Int) (s:Mc) (x:Pnt) (ho:x.op = 8) (hm:OkM s.cells) (hsl:s.slots.length = ts.length) (hx:0 ≤ x.x ∧ x.x < ts.length) (hl:ts.length ≤ 1048576):PC Tryz.prog 161 [sl cI ts,eD s,dV x] (fun r => r = .tup [eD (bE ts s x).1,iv (gk (bE ts s x).2)]):=by
 have hfr := jF s.cells hm s.slots[x.x.toNat]!.ptr
 have hcl := mJ ⟨s.slots,eU s.cells s.slots[x.x.toNat]!.ptr,s.read⟩ x.x.toNat (by show _ < s.slots.length;omega) (by show s.slots.length ≤ _; omega)
 rw [Int.toNat_of_nonneg hx.1] at hcl
 have h0 : bE ts s x = (⟨s.slots.set x.x.toNat eG, eU s.cells s.slots[x.x.toNat]!.ptr, s.read⟩, gM (aS s.cells s.slots[x.x.toNat]!.ptr true)) := by
  unfold bE;rw [if_neg (show ¬ x.op = 1 by omega),if_neg (show ¬ x.op = 2 by omega),if_neg (show ¬ x.op = 3 by omega),if_neg (show ¬ (x.op = 4 ∨ x.op = 5) by omega),if_neg (show ¬ x.op = 6 by omega),if_neg (show ¬ x.op = 7 by omega),if_pos ho]
 rw [h0]
 refine aD Tryz.func161 Tryz.ntmps161 ?_
 repeat' (first|(apply aF;first|(apply aB (k := 189);rfl;exact hfr;exact Pur.pf;rfl)|(apply aB (k := 191);rfl;exact hcl;exact Pur.pf;rfl)|(apply aB (k := 190);rfl;(apply hZ);(rfl);rfl))|refine aE ?_|(refine aL ?_ ?_ <;> intro hc hq <;> try (exfalso;omega))|refine cC ?_|fail)
 refine aC (l := [eD ⟨s.slots.set x.x.toNat eG,eU s.cells s.slots[x.x.toNat]!.ptr,s.read⟩,iv (if aS s.cells s.slots[x.x.toNat]!.ptr true = 1 then 3 else if aS s.cells s.slots[x.x.toNat]!.ptr true = 0 then 0 else 4)]) rfl ?_
 rw [← DV]
 exact ⟨rfl,by exact Pur.pf⟩
def Gu (s : Mc) (x : Pnt) : Bool :=
 if x.op = 3 ∨ x.op = 4 ∨ x.op = 5 ∨ x.op = 6 then !s.slots[x.y.toNat]!.set
 else if x.op = 7 then !s.slots[x.x.toNat]!.set || !s.slots[x.y.toNat]!.set
 else if x.op = 8 then !s.slots[x.x.toNat]!.set else false
theorem Bm (s:Mc) (x:Pnt) (hx:(x.op = 7 ∨ x.op = 8) → 0 ≤ x.x ∧ x.x < s.slots.length) (hy:(x.op = 3 ∨ x.op = 4 ∨ x.op = 5 ∨ x.op = 6 ∨ x.op = 7) → 0 ≤ x.y ∧ x.y < s.slots.length):PC Tryz.prog 160 [dV x,eD s] (fun r => r = bv (Gu s x)):=by
 refine aD Tryz.func160 Tryz.ntmps160 ?_
 repeat' (first|refine aE ?_|(refine aL ?_ ?_ <;> intro hc hq <;> try (exfalso;omega))|(refine cS ?_ ?_ <;> intro hg hq <;> try (exfalso;omega))|fail)
 all_goals (refine aC rfl ⟨?_,rfl⟩; simp only [aN,AV.v.injEq,Value.bool.injEq]; unfold Gu;grind)
theorem tF {ts:List Int}{n v:Nat}{q:Mc}(h:¬ (ts[v]! = 2 ∧ q.slots[v]!.set = true)):bW ts (n + 1) v q = bW ts n (v + 1) q:=by
 rw [bW,if_neg h]
theorem CB {ts:List Int}{n v:Nat}{q:Mc}(h:ts[v]! = 2 ∧ q.slots[v]!.set = true) (hk:aS q.cells q.slots[v]!.ptr true = 0):bW ts (n + 1) v q = bW ts n (v + 1) ⟨q.slots.set v eG,eU q.cells q.slots[v]!.ptr,q.read⟩:=by
 rw [bW,if_pos h,if_pos hk]
theorem DG {ts:List Int}{n v:Nat}{q:Mc}(h:ts[v]! = 2 ∧ q.slots[v]!.set = true) (hk:¬ aS q.cells q.slots[v]!.ptr true = 0):bW ts (n + 1) v q = (⟨q.slots,eU q.cells q.slots[v]!.ptr,q.read⟩,c6 (aS q.cells q.slots[v]!.ptr true)):=by
 rw [bW,if_pos h,if_neg hk]
theorem FK (ts:List Int) (s:Mc) (hm:OkM s.cells) (hsl:s.slots.length = ts.length) (hl:ts.length ≤ 1048576):PC Tryz.prog 159 [sl cI ts,eD s] (fun r => r = .tup [eD (bW ts ts.length 0 s).1,iv (bW ts ts.length 0 s).2]):=by
 refine aD Tryz.func159 Tryz.ntmps159 ?_
 repeat' (first|refine aE ?_|fail)
 refine aK (σ := Nat × Mc) [0,3,4] [1] (fun k => [(6,iv (k.1 : Int))]) (fun k => [(0,some [sl cG k.2.slots,sl a8 k.2.cells,sl cI k.2.read])]) (fun k => k.1 ≤ ts.length ∧ bW ts (ts.length - k.1) k.1 k.2 = bW ts ts.length 0 s ∧ OkM k.2.cells ∧ k.2.slots.length = ts.length) (fun k => ts.length - k.1) (0,s) ⟨Nat.zero_le _,rfl,hm,hsl⟩ ?_
 rintro ⟨v,q⟩ ⟨hv,hf,hmq,hlq⟩
 dsimp only at hv hf hmq hlq ⊢
 have hfr := jF q.cells hmq q.slots[v]!.ptr
 have hcl := fun h => mJ ⟨q.slots,eU q.cells q.slots[v]!.ptr,q.read⟩ v h (by show q.slots.length ≤ _; omega)
 repeat' (first|(apply aF;first|(apply aB (k := 189);rfl;exact hfr;exact Pur.pf;rfl)|(apply aB (k := 191);rfl;(exact hcl (by show v < q.slots.length;omega));exact Pur.pf;rfl)|(apply aB (k := 190);rfl;(apply hZ);(rfl);rfl))|refine aE ?_|(refine aL ?_ ?_ <;> intro hc hq <;> try (exfalso;omega))|(refine cS ?_ ?_ <;> intro hg hq <;> try (exfalso;omega))|refine cC ?_|fail)
 ·(refine c9 (v + 1, q) (Le.renA [(0, 0), (1, 1)]) ?_ ?_)
  ·refine ⟨by omega, ?_, hmq, hlq⟩
   dsimp only
   rw [← hf, show ts.length - v = (ts.length - (v + 1)) + 1 by omega, tF (fun h => by
    have h2 : q.slots[v]!.set = false := by assumption
    rw [h2] at h;exact absurd h.2 (by decide))]
  ·dsimp only;omega
 ·have hk : ¬ aS q.cells q.slots[v]!.ptr true = 0 := by assumption
  have hq2 : bW ts ts.length 0 s = (⟨q.slots, eU q.cells q.slots[v]!.ptr, q.read⟩, c6 (aS q.cells q.slots[v]!.ptr true)) := by
   rw [← hf,show ts.length - v = (ts.length - (v + 1)) + 1 by omega,DG ⟨by assumption,by assumption⟩ hk]
  rw [hq2]
  refine aC (l := [eD ⟨q.slots,eU q.cells q.slots[v]!.ptr,q.read⟩,iv (if aS q.cells q.slots[v]!.ptr true = 1 then 3 else if aS q.cells q.slots[v]!.ptr true = 0 then 0 else 4)]) rfl ?_
  rw [rM hk]
  exact ⟨rfl,by exact Pur.pf⟩
 ·(refine c9 (v + 1, ⟨q.slots.set v eG, eU q.cells q.slots[v]!.ptr, q.read⟩) (Le.renA [(0, 0), (1, 1)]) ?_ ?_)
  ·refine ⟨by omega, ?_, hmq.fr _, by show (q.slots.set v eG).length = _; rw [List.length_set]; exact hlq⟩
   dsimp only
   rw [← hf,show ts.length - v = (ts.length - (v + 1)) + 1 by omega,CB ⟨by assumption,by assumption⟩ (by assumption)]
  ·dsimp only;omega
 ·(refine c9 (v + 1, q) (Le.renA [(0, 0), (1, 1)]) ?_ ?_)
  ·refine ⟨by omega, ?_, hmq, hlq⟩
   dsimp only
   rw [← hf, show ts.length - v = (ts.length - (v + 1)) + 1 by omega, tF (fun h => by
    have h2 : ¬ ts[v]! = 2 := by assumption
    exact h2 h.1)]
  ·dsimp only;omega
 ·have hve : v = ts.length := by omega
  have hq2 : bW ts ts.length 0 s = (q,0) := by rw [← hf,hve,Nat.sub_self]; rfl
  rw [hq2]
  exact aC (l := [eD q,iv 0]) rfl ⟨rfl,by exact Pur.pf⟩
theorem sK (p:Prg) (hl:p.types.length ≤ 1048576) (hs:aJ p.body ≤ 1048576):PC Tryz.prog 105 [cJ p] (fun r => r = sl bZ (if cL p = true then bJ p else [])):=by
 have hval := pM p hl (by omega)
 have h2 := kP p hs
 refine aD Tryz.func105 Tryz.ntmps105 ?_
 repeat' (first|(apply aF;first|(apply aB (k := 40);rfl;exact hval;exact Pur.pf;rfl)|(apply aB (k := 27);rfl;exact h2;exact Pur.pf;rfl)|(apply aM (t := _);rfl;rfl;rfl;(rfl);rfl;rfl))|refine aE ?_|(refine aL ?_ ?_ <;> intro hc hq <;> try (exfalso;omega))|fail)
 ·refine aC rfl ⟨?_, (by (rfl))⟩
  rw [if_neg (by simp [hq])]; rfl
 ·refine aC rfl ⟨?_, (by (exact cR _ _))⟩
  rw [if_pos hq]; rfl
def wm (pts : List Pnt) (n a : Nat) (cs : List Int) : List Int × Bool := ((cK pts n a cs).1.map (fun a : Nat => (a : Int)),(cK pts n a cs).2)
theorem DQ {pts:List Pnt}{n a:Nat}{cs:List Int}(h:pts[a]!.op = 11):wm pts n a cs = ([(a:Int)],true):=by
 have e : cK pts n a cs = ([a],true) := by cases n <;> (unfold cK;rw [if_pos h])
 unfold wm;rw [e]; rfl
theorem BV {pts:List Pnt}{a:Nat}{cs:List Int}(h:¬ pts[a]!.op = 11):wm pts 0 a cs = ([],false):=by
 have e : cK pts 0 a cs = ([],false) := by unfold cK;rw [if_neg h]
 unfold wm;rw [e]; rfl
theorem IF {pts:List Pnt}{n a:Nat}{cs:List Int}(h:¬ pts[a]!.op = 11):wm pts (n + 1) a cs = ((a:Int) :: (wm pts n (eV pts a cs).1 (eV pts a cs).2).1,(wm pts n (eV pts a cs).1 (eV pts a cs).2).2):=by
 unfold wm;rw [cK,if_neg h]; rfl
theorem Gd {pts:List Pnt}{a:Nat}{cs:List Int}(h:¬ pts[a]!.next.length = 2):eV pts a cs = ((pts[a]!.next[0]!).toNat,cs):=by
 unfold eV;rw [if_neg h]
theorem Is {pts:List Pnt}{a u:Nat}{cs:List Int}(h:pts[a]!.next.length = 2) (hu:cs.length ≤ u):eV pts a (cs.drop u) = ((pts[a]!.next[1]!).toNat,cs.drop (u + 1)):=by
 unfold eV;rw [if_pos h,List.drop_eq_nil_of_le hu,List.drop_eq_nil_of_le (by omega)]
theorem Gl {pts:List Pnt}{a u:Nat}{cs:List Int}(h:pts[a]!.next.length = 2) (hu:u < cs.length):eV pts a (cs.drop u) = ((pts[a]!.next[if cs[u]!.tmod 2 = 0 then 0 else 1]!).toNat,cs.drop (u + 1)):=by
 have e : (cs[u]! % 2).toNat = if cs[u]!.tmod 2 = 0 then 0 else 1 := by
  by_cases q : cs[u]!.tmod 2 = 0
  ·rw [if_pos q,Int.emod_eq_zero_of_dvd (Int.dvd_of_tmod_eq_zero q)]; rfl
  ·rw [if_neg q]
   have : ¬ cs[u]! % 2 = 0 := fun q2 => q (Int.tmod_eq_zero_of_dvd (Int.dvd_of_emod_eq_zero q2))
   omega
 have e2 : cs.drop u = cs[u]! :: cs.drop (u + 1) := by rw [List.drop_eq_getElem_cons hu,aW _ _ hu]
 unfold eV
 rw [if_pos h,e2]
 dsimp only
 rw [e]
theorem lV {pts:List Pnt}{n a:Nat}{out cs cs2:List Int}{b:Nat}{q:List Int × Bool}(h:¬ pts[a]!.op = 11) (ho:out.length < n) (hs:eV pts a cs = (b,cs2)) (hq:q = (out ++ (wm pts (n - out.length) a cs).1,(wm pts (n - out.length) a cs).2)) :
  q = ((out ++ [(a : Int)]) ++ (wm pts (n - (out ++ [(a : Int)]).length) b cs2).1,(wm pts (n - (out ++ [(a : Int)]).length) b cs2).2) := by
 rw [hq,show n - out.length = (n - (out.length + 1)) + 1 by omega,IF h,hs,List.length_append,List.append_assoc]
 rfl
theorem xH (p:Prg) (cs:List Int) (n:Nat) (hv:cL p = true) (hl:p.types.length ≤ 1048576) (hs:aJ p.body ≤ 1048576) (hn:n ≤ 1000) (hcl:cs.length ≤ 1048576):PC Tryz.prog 158 [cJ p,sl cI cs,iv (n:Int)] (fun r => r = .tup [sl cI (wm (bJ p) n 0 cs).1,bv (wm (bJ p) n 0 cs).2]):=by
 have hpo := sK p hl hs
 rw [if_pos hv] at hpo
 have w := WG.of_valid hv
 have wa := WA.of_valid hv
 obtain ⟨pts,hpts⟩ : ∃ pts,pts = bJ p := ⟨_,rfl⟩
 rw [← hpts] at hpo w wa ⊢
 have hpl := w.pl
 have hp0 := w.p0
 refine aD Tryz.func158 Tryz.ntmps158 ?_
 repeat' (first|(apply aF;(apply aB (k := 105);rfl;exact hpo;exact Pur.pf;rfl))|refine aE ?_|(refine aL ?_ ?_ <;> intro hc hq <;> try (exfalso;omega))|(refine cS ?_ ?_ <;> intro hg hq <;> try (exfalso;omega))|fail)
 refine aK (σ := Int × Nat × List Int × Nat) [1,2,9] [] (fun k => [(10,iv k.1),(11,iv (k.2.1 : Int)),(8,.own 1 0 k.2.2.2 1)]) (fun k => [(1,some (aA cI k.2.2.1))]) (fun k => (0 ≤ k.1 ∧ k.1 < pts.length) ∧ k.2.1 ≤ k.2.2.1.length ∧ k.2.2.1.length ≤ n ∧ k.2.2.2 = k.2.2.1.length ∧ wm pts n 0 cs = (k.2.2.1 ++ (wm pts (n - k.2.2.1.length) k.1.toNat (cs.drop k.2.1)).1,(wm pts (n - k.2.2.1.length) k.1.toNat (cs.drop k.2.1)).2)) (fun k => n + 1 - k.2.2.1.length) (0,0,[],0) ⟨⟨Int.le_refl _,by show (0 : Int) < _; omega⟩,Nat.le_refl _,Nat.zero_le _,rfl,rfl⟩ ?_
 rintro ⟨a,u,out,m⟩ ⟨⟨ha0,ha⟩,hu,ho,hm,hw⟩
 dsimp only at ha0 ha hu ho hm hw ⊢
 have hat : (a.toNat : Int) = a := Int.toNat_of_nonneg ha0
 have hnx := w.nx a.toNat (by omega)
 have hnl := w.nl a.toNat (by omega)
 have hn1 := wa.n a.toNat (by omega)
 have hk : ∀ k,k < pts[a.toNat]!.next.length → 0 ≤ pts[a.toNat]!.next[k]! ∧ pts[a.toNat]!.next[k]! < pts.length := fun k h => hnx _ (aY _ _ h)
 repeat' (first|(apply aF;(apply aM (t := _);rfl;rfl;rfl;exact (rfl:_=some [_]);rfl;rfl))|refine aE ?_|(refine aL ?_ ?_ <;> intro hc hq <;> try (exfalso;omega))|(refine cS ?_ ?_ <;> intro hg hq <;> try (exfalso;omega))|fail)
 ·have hop : ¬ pts[a.toNat]!.op = 11 := by assumption
  have e : wm pts n 0 cs = (out,false) := by rw [hw,show n - out.length = 0 by omega,BV hop,List.append_nil]
  rw [e]
  (refine bD (Le.frzD (d := 6) (i := 1) rfl rfl) ?_; refine aC rfl ?_)
  refine ⟨?_,(by exact Pur.pf)⟩
  simp only [aN,sl]
  rw [hm]
 ·have hop : ¬ pts[a.toNat]!.op = 11 := by assumption
  have hst := lV hop (by omega) ((Gl (by omega) (by omega)).trans (by rw [if_pos (by assumption)])) hw
  rw [hat] at hst
  have hk := hk 0 (by omega)
  (refine c9 (pts[a.toNat]!.next[0]!,u + 1,_,_) (Le.renA [(1,3)]) ?_ ?_)
  ·refine ⟨hk,?_,?_,?_,hst⟩ <;> (dsimp only;rw [List.length_append]; simp only [List.length_singleton]; omega)
  ·dsimp only;rw [List.length_append]; simp only [List.length_singleton]; omega
 ·have hop : ¬ pts[a.toNat]!.op = 11 := by assumption
  have hst := lV hop (by omega) ((Gl (by omega) (by omega)).trans (by rw [if_neg (by assumption)])) hw
  rw [hat] at hst
  have hk := hk 1 (by omega)
  (refine c9 (pts[a.toNat]!.next[1]!,u + 1,_,_) (Le.renA [(1,3)]) ?_ ?_)
  ·refine ⟨hk,?_,?_,?_,hst⟩ <;> (dsimp only;rw [List.length_append]; simp only [List.length_singleton]; omega)
  ·dsimp only;rw [List.length_append]; simp only [List.length_singleton]; omega
 ·have hop : ¬ pts[a.toNat]!.op = 11 := by assumption
  have hst := lV hop (by omega) (Is (by omega) (by omega)) hw
  rw [hat] at hst
  have hk := hk 1 (by omega)
  (refine c9 (pts[a.toNat]!.next[1]!,u + 1,_,_) (Le.renA [(1,3)]) ?_ ?_)
  ·refine ⟨hk,?_,?_,?_,hst⟩ <;> (dsimp only;rw [List.length_append]; simp only [List.length_singleton]; omega)
  ·dsimp only;rw [List.length_append]; simp only [List.length_singleton]; omega
 ·have hop : ¬ pts[a.toNat]!.op = 11 := by assumption
  have hst := lV hop (by omega) (Gd (by omega)) hw
  rw [hat] at hst
  have hk := hk 0 (by omega)
  (refine c9 (pts[a.toNat]!.next[0]!,u,_,_) (Le.renA [(1,3)]) ?_ ?_)
  ·refine ⟨hk,?_,?_,?_,hst⟩ <;> (dsimp only;rw [List.length_append]; simp only [List.length_singleton]; omega)
  ·dsimp only;rw [List.length_append]; simp only [List.length_singleton]; omega
 ·have hop : pts[a.toNat]!.op = 11 := by assumption
  have e : wm pts n 0 cs = (out ++ [a],true) := by rw [hw,DQ hop,hat]
  rw [e]
  (refine bD (Le.frzD (d := 6) (i := 3) rfl rfl) ?_; refine aC rfl ?_)
  refine ⟨?_,(by exact Pur.pf)⟩
  simp only [aN,sl]
  rw [hm,List.length_append]; rfl
theorem G9 {ts:List Int}{s:Mc}{x:Pnt}(hx:(x.op = 7 ∨ x.op = 8) → 0 ≤ x.x ∧ x.x < ts.length) (hy:(x.op = 3 ∨ x.op = 4 ∨ x.op = 5 ∨ x.op = 6 ∨ x.op = 7) → 0 ≤ x.y ∧ x.y < ts.length):Gu s x = bK ts s x:=by
 have hX : ∀ v : Nat,(v : Int) = x.x → v = x.x.toNat := fun v h => by omega
 have hY : ∀ v : Nat,(v : Int) = x.y → v = x.y.toNat := fun v h => by omega
 cases hu : bK ts s x with
 | true =>
  obtain ⟨v,hv,hne,hs⟩ := oB hu
  unfold aV at hne
  unfold Gu
  by_cases h3 : x.op = 3
  ·rw [if_pos h3] at hne
   by_cases e : (v : Int) = x.y
   ·rw [if_pos (.inl h3),← hY v e,hs]; rfl
   ·rw [if_neg e] at hne;exact absurd rfl hne
  ·rw [if_neg h3] at hne
   by_cases h4 : x.op = 4 ∨ x.op = 5 ∨ x.op = 6
   ·rw [if_pos h4] at hne
    by_cases e : (v : Int) = x.y
    ·rw [if_pos (by omega),← hY v e,hs]; rfl
    ·rw [if_neg e] at hne;exact absurd rfl hne
   ·rw [if_neg h4] at hne
    rw [if_neg (by omega)]
    by_cases h7 : x.op = 7
    ·rw [if_pos h7] at hne ⊢
     by_cases e : (v : Int) = x.x
     ·rw [← hX v e,hs]; rfl
     ·rw [if_neg e] at hne
      by_cases e2 : (v : Int) = x.y
      ·rw [← hY v e2,hs]; simp
      ·rw [if_neg e2] at hne;exact absurd rfl hne
    ·rw [if_neg h7] at hne ⊢
     by_cases h8 : x.op = 8
     ·rw [if_pos h8] at hne ⊢
      by_cases e : (v : Int) = x.x
      ·rw [← hX v e,hs]; rfl
      ·rw [if_neg e] at hne;exact absurd rfl hne
     ·rw [if_neg h8] at hne;exact absurd rfl hne
 | false =>
  have hS : ∀ v : Nat,v < ts.length → aV ts x v ≠ 0 → s.slots[v]!.set = true := fun v hv h => fB hu hv h
  unfold Gu
  by_cases h3 : x.op = 3
  ·have := hy (.inl h3)
   rw [if_pos (.inl h3),hS x.y.toNat (by omega) (by unfold aV;rw [if_pos h3,if_pos (by omega)]; split <;> decide)]; rfl
  ·by_cases h4 : x.op = 4 ∨ x.op = 5 ∨ x.op = 6
   ·have := hy (by omega)
    rw [if_pos (by omega),hS x.y.toNat (by omega) (by unfold aV;rw [if_neg h3,if_pos h4,if_pos (by omega)]; decide)]; rfl
   ·rw [if_neg (by omega)]
    by_cases h7 : x.op = 7
    ·have hy7 := hy (by omega)
     have hx7 := hx (.inl h7)
     rw [if_pos h7, hS x.x.toNat (by omega) (by unfold aV; rw [if_neg h3, if_neg h4, if_pos h7, if_pos (by omega)]; decide),
      hS x.y.toNat (by omega) (by unfold aV;rw [if_neg h3,if_neg h4,if_pos h7]; split;decide;rw [if_pos (by omega)]; decide)]; rfl
    ·rw [if_neg h7]
     by_cases h8 : x.op = 8
     ·have hx8 := hx (.inr h8)
      rw [if_pos h8,hS x.x.toNat (by omega) (by unfold aV;rw [if_neg h3,if_neg h4,if_neg h7,if_pos h8,if_pos (by omega)]; decide)]; rfl
     ·rw [if_neg h8]
theorem xG (k:Int):gM k ≠ 0:=by
 unfold gM c6;split
 ·decide
 ·split <;> decide
theorem zR (k:Int):c6 k ≠ 0 := by unfold c6;split <;> decide
theorem lB {ts:List Int}{s:Mc}{v:Nat}{y:Sl}:(a7 ts s v y).2 ≠ 0:=by
 unfold a7;split
 ·exact xG _
 ·show (-1 : Int) ≠ 0;decide
theorem HU {ts:List Int}{s:Mc}{x:Pnt}(h:x.op ≠ 11):(bE ts s x).2 ≠ 0:=by
 unfold bE
 split
 ·exact lB
 split
 ·split
  ·show (1 : Int) ≠ 0;decide
  ·exact lB
 split
 ·exact lB
 split
 ·split
  ·exact lB
  ·exact zR _
 split
 ·split
  ·exact lB
  ·exact zR _
 split
 ·exact xG _
 split
 ·exact xG _
 show (-1 : Int) ≠ 0;decide
theorem IT {ts:List Int}{s:Mc}{x:Pnt}(h:x.op ≠ 11):gk (bE ts s x).2 = 0 ↔ (bE ts s x).2 = -1:=by
 have := HU (ts := ts) (s := s) h
 unfold gk;split
 ·simp [*]
 ·constructor <;> (intro q;contradiction)
theorem Hn (ts:List Int) (s:Mc) (x:Pnt) (ho:x.op = 9 ∨ x.op = 10):PC Tryz.prog 161 [sl cI ts,eD s,dV x] (fun r => r = .tup [eD (bE ts s x).1,iv (gk (bE ts s x).2)]):=by
 have h0 : bE ts s x = (s, -1) := by
  unfold bE;rw [if_neg (show ¬ x.op = 1 by omega),if_neg (show ¬ x.op = 2 by omega),if_neg (show ¬ x.op = 3 by omega),if_neg (show ¬ (x.op = 4 ∨ x.op = 5) by omega),if_neg (show ¬ x.op = 6 by omega),if_neg (show ¬ x.op = 7 by omega),if_neg (show ¬ x.op = 8 by omega),if_neg (show ¬ x.op = 11 by omega)]
 rw [h0]
 refine aD Tryz.func161 Tryz.ntmps161 ?_
 repeat' (first|refine aE ?_|(refine aL ?_ ?_ <;> intro hc hq <;> try (exfalso;omega))|fail)
 exact aC (l := [eD s,iv 0]) rfl ⟨rfl,by exact Pur.pf⟩
theorem G0 (ts:List Int) (s:Mc) (x:Pnt) (h11:x.op ≠ 11) (hop:1 ≤ x.op ∧ x.op ≤ 11) (hm:OkM s.cells) (hsl:s.slots.length = ts.length) (hx:x.op ≤ 8 → 0 ≤ x.x ∧ x.x < ts.length) (hy:3 ≤ x.op → x.op ≤ 7 → 0 ≤ x.y ∧ x.y < ts.length) (hn:x.op = 2 → 0 ≤ x.n ∧ x.n ≤ 9) (hl:ts.length ≤ 1048576) (hrl:s.read.length ≤ 1048576):PC Tryz.prog 161 [sl cI ts,eD s,dV x] (fun r => r = .tup [eD (bE ts s x).1,iv (gk (bE ts s x).2)]):=by
 by_cases h1 : x.op = 1
 ·exact HC ts s x h1 hm hsl (hx (by omega)) hl
 by_cases h2 : x.op = 2
 ·exact GG ts s x h2 hm hsl (hx (by omega)) (hn h2) hl
 by_cases h3 : x.op = 3
 ·exact GZ ts s x h3 hm hsl (hx (by omega)) (hy (by omega) (by omega)) hl
 by_cases h4 : x.op = 4 ∨ x.op = 5
 ·exact Fg ts s x h4 hm hsl (hx (by omega)) (hy (by omega) (by omega)) hl
 by_cases h6 : x.op = 6
 ·exact Ho ts s x h6 hm hsl (hx (by omega)) (hy (by omega) (by omega)) hl hrl
 by_cases h7 : x.op = 7
 ·exact HF ts s x h7 hm hsl (hx (by omega)) (hy (by omega) (by omega)) hl
 by_cases h8 : x.op = 8
 ·exact Hw ts s x h8 hm hsl (hx (by omega)) hl
 ·exact Hn ts s x (by omega)
theorem iB {ts:List Int}{s:Mc}{v:Nat}{y:Sl}:(a7 ts s v y).1.read = s.read := by unfold a7;split <;> rfl
theorem vH {ts:List Int}{s:Mc}{x:Pnt}(h:x.op ≠ 11):(bE ts s x).1.read.length ≤ s.read.length + 1:=by
 unfold bE
 split
 ·rw [iB]; omega
 split
 ·split
  ·dsimp only;omega
  ·rw [iB]; dsimp only;omega
 split
 ·rw [iB]; split <;> (first|omega|(dsimp only;omega))
 split
 ·split
  ·rw [iB]; dsimp only;omega
  ·dsimp only;omega
 split
 ·split
  ·rw [iB]; dsimp only;rw [List.length_append]; simp only [List.length_singleton]; omega
  ·dsimp only;omega
 split
 ·dsimp only;omega
 split
 ·dsimp only;omega
 dsimp only;omega
theorem y7 (pts:List Pnt):∀ n a cs,(cK pts n a cs).2 = true → ∃ l b,(cK pts n a cs).1 = l ++ [b] ∧ pts[b]!.op = 11
 | 0, a, cs, h => by
  unfold cK at h ⊢
  by_cases e : pts[a]!.op = 11
  ·rw [if_pos e]; exact ⟨[],a,rfl,e⟩
  ·rw [if_neg e] at h;exact absurd h (by decide)
 | n + 1, a, cs, h => by
  rw [cK] at h ⊢
  by_cases e : pts[a]!.op = 11
  ·rw [if_pos e]; exact ⟨[],a,rfl,e⟩
  ·rw [if_neg e] at h ⊢
   obtain ⟨l,b,h1,h2⟩ := y7 pts n _ _ h
   exact ⟨a :: l,b,by dsimp only;rw [h1]; rfl,h2⟩
theorem G4 {s:Mc}{x:Pnt}(h:x.op = 11):Gu s x = false:=by
 unfold Gu;rw [if_neg (by omega),if_neg (by omega),if_neg (by omega)]
theorem Fj (p:Prg) (cs:List Int) (n:Nat) (hv:cL p = true) (hl:p.types.length ≤ 1048576) (hs:aJ p.body ≤ 1048576) (hn:n ≤ 150) (hcl:cs.length ≤ 1048576) (hL:∀ a ∈ (cK (bJ p) n 0 cs).1,a < (bJ p).length) (hLl:(cK (bJ p) n 0 cs).1.length ≤ 151):PC Tryz.prog 121 [cJ p,sl cI cs,iv (n:Int)] (fun r => r = .tup [eD (cQ p.types (bJ p) cs n).1,iv (cQ p.types (bJ p) cs n).2.1,iv (cQ p.types (bJ p) cs n).2.2]):=by
 have hpo := kP p hs
 have hru := xH p cs n hv hl hs (by omega) hcl
 have w := WG.of_valid hv
 have wa := WA.of_valid hv
 obtain ⟨q,hq⟩ : ∃ q,q = cQ p.types (bJ p) cs n := ⟨_,rfl⟩
 rw [← hq]
 unfold cQ at hq
 unfold wm at hru
 obtain ⟨L,hLe⟩ : ∃ L,L = (cK (bJ p) n 0 cs).1 := ⟨_,rfl⟩
 obtain ⟨dn,hdn⟩ : ∃ dn,dn = (cK (bJ p) n 0 cs).2 := ⟨_,rfl⟩
 rw [← hLe,← hdn] at hru
 rw [← hLe] at hq hL hLl
 have hgx : ∀ i,i < L.length → (L.map (fun a : Nat => (a : Int)))[i]! = (L[i]! : Int) := fun i h => by rw [aW _ _ (by rw [List.length_map]; exact h),List.getElem_map,aW _ _ h]
 have hml : (L.map (fun a : Nat => (a : Int))).length = L.length := List.length_map _
 generalize (L.map (fun a : Nat => (a : Int))) = LI at *
 generalize hP : bJ p = pts at *
 have e1 : AV.imm p.types.length ((List.replicate p.types.length ([Value.bool false, Value.int .i64 0, Value.int .i64 0, Value.int .i64 0].map AV.v)).flatten) = sl cG (List.replicate p.types.length eG) := by
  rw [sO (f := cG) (x := eG) (l := [Value.bool false,Value.int .i64 0,Value.int .i64 0,Value.int .i64 0].map AV.v) rfl]; exact dI (by simp)
 refine aD Tryz.func121 Tryz.ntmps121 ?_
 repeat' (first|(apply aF;first|(apply aB (k := 27);rfl;exact hpo;exact Pur.pf;rfl)|(with_reducible apply a6 (d := 27))|(apply aM (t := _);rfl;rfl;rfl;(rfl);rfl;rfl))|refine aE ?_|fail)
 refine b7 (fK ?_ (Le.frzD (d := 24) (i := 2) rfl rfl))
 rw [e1]
 repeat' (first|(apply aF;(apply aB (k := 158);rfl;exact hru;exact Pur.pf;rfl))|refine aE ?_|fail)
 refine aK (σ := Nat × Mc) [3,6,9,10,11,12] [0,1] (fun k => [(13,iv (k.1 : Int))]) (fun k => [(5,some [sl cG k.2.slots,sl a8 k.2.cells,sl cI k.2.read])]) (fun k => k.1 ≤ L.length ∧ eW p.types pts (L.drop k.1) k.2 (if k.1 = 0 then 0 else L[k.1 - 1]!) = q ∧ OkS p.types.length k.2 ∧ k.2.read.length ≤ k.1 ∧ (∀ j,j < k.1 → pts[L[j]!]!.op ≠ 11)) (fun k => L.length - k.1) (0,mc0 p.types.length) ⟨Nat.zero_le _,by rw [hq]; rfl,OkS.mc0 _,Nat.le_refl _,fun j h => absurd h (by omega)⟩ ?_
 rintro ⟨i,s⟩ ⟨hi,hf,hok,hrd,h11⟩
 dsimp only at hi hf hok hrd h11 ⊢
 have hil : i < L.length → L[i]! < pts.length := fun h => hL _ (aY _ _ h)
 have hex := fun h => FK p.types s hok.m hok.l h
 by_cases hiL : i < L.length
 ·have hap := hil hiL
  have hop := w.op L[i]! hap
  have hwx := w.x L[i]! hap
  have hwy := w.y L[i]! hap
  have hA := wa.a L[i]! hap
  have hg := hgx i hiL
  have hen := hex hl
  have hun := Bm s pts[L[i]!]! (fun h => by have := hok.l;omega) (fun h => by have := hok.l;omega)
  have hun2 := G9 (ts := p.types) (s := s) (x := pts[L[i]!]!) (fun h => by omega) (fun h => by omega)
  rw [hun2] at hun
  have hdo := fun h => G0 p.types s pts[L[i]!]! h hop hok.m hok.l (fun h => by omega) (fun h h2 => by omega) (fun h => hA.n (.inr h)) hl (by omega)
  repeat' (first|(apply aF;(with_reducible apply a6 (d := 46)))|refine aE ?_|(refine aL ?_ ?_ <;> intro hc hq <;> try (exfalso;omega))|fail)
  refine b7 ?_
  rw [hg]
  repeat' (first|(apply aF;first|(apply aB (k := 159);rfl;exact hen;exact Pur.pf;rfl)|(apply aB (k := 160);rfl;exact hun;exact Pur.pf;rfl)|(apply aB (k := 161);rfl;exact hdo (by assumption);exact Pur.pf;rfl))|refine aE ?_|(refine aL ?_ ?_ <;> intro hc hq <;> try (exfalso;omega))|refine cC ?_|fail)
  all_goals have hdr : L.drop i = L[i]! :: L.drop (i + 1) := by rw [List.drop_eq_getElem_cons hiL,aW _ _ hiL]
  all_goals rw [hdr] at hf
  ·have ho : pts[L[i]!]!.op = 11 := by assumption
   have hqq : q = ((bW p.types p.types.length 0 s).1, (bW p.types p.types.length 0 s).2, L[i]!) := by
    rw [← hf,eW,if_neg (by rw [← hun2,G4 ho]; decide),oR ho,if_neg (by have := kB p.types p.types.length 0 s;omega)]
   rw [hqq]
   refine aC (l := [eD (bW p.types p.types.length 0 s).1,iv (bW p.types p.types.length 0 s).2,iv LI[i]!]) rfl ?_
   rw [hg]
   exact ⟨rfl,by exact Pur.pf⟩
  ·have hu : bK p.types s pts[L[i]!]! = true := by assumption
   have hqq : q = (s,2,L[i]!) := by rw [← hf,eW,if_pos hu]
   rw [hqq]
   refine aC (l := [eD s,iv 2,iv LI[i]!]) rfl ?_
   rw [hg]
   exact ⟨rfl,by exact Pur.pf⟩
  ·have ho : ¬ pts[L[i]!]!.op = 11 := by assumption
   have hu : bK p.types s pts[L[i]!]! = false := by assumption
   have hk : ¬ gk (bE p.types s pts[L[i]!]!).2 = 0 := by assumption
   have hk2 : ¬ (bE p.types s pts[L[i]!]!).2 = -1 := fun e => hk ((IT ho).2 e)
   have hqq : q = ((bE p.types s pts[L[i]!]!).1,(bE p.types s pts[L[i]!]!).2,L[i]!) := by rw [← hf,eW,if_neg (by rw [hu]; decide),if_neg hk2]
   rw [hqq]
   refine aC (l := [eD (bE p.types s pts[L[i]!]!).1,iv (gk (bE p.types s pts[L[i]!]!).2),iv LI[i]!]) rfl ?_
   rw [hg,show gk (bE p.types s pts[L[i]!]!).2 = (bE p.types s pts[L[i]!]!).2 by unfold gk;rw [if_neg hk2]]
   exact ⟨rfl,by exact Pur.pf⟩
  ·have ho : ¬ pts[L[i]!]!.op = 11 := by assumption
   have hu : bK p.types s pts[L[i]!]! = false := by assumption
   have hk2 : (bE p.types s pts[L[i]!]!).2 = -1 := (IT ho).1 (by assumption)
   (refine c9 (i + 1,(bE p.types s pts[L[i]!]!).1) (Le.renA [(0,0),(1,1),(5,5)]) ?_ ?_)
   ·refine ⟨by dsimp only; omega, ?_, hok.do ⟨fun h => hA.n (.inr h)⟩, ?_, ?_⟩
    ·dsimp only
     rw [← hf,if_neg (by omega),show i + 1 - 1 = i by omega,eW,if_neg (by rw [hu]; decide),if_pos hk2]
    ·dsimp only;have := vH (ts := p.types) (s := s) ho;omega
    ·intro j hj
     rcases Nat.lt_or_ge j i with h|h
     ·exact h11 j h
     ·rw [show j = i by omega]; exact ho
   ·dsimp only;omega
 ·repeat' (first | refine aE ?_ | (refine aL ?_ ?_ <;> intro hc hq <;> try (exfalso; omega)) | (refine cS ?_ ?_ <;> intro hg hq <;> try (exfalso; omega)) | refine cC ?_|fail)
  all_goals have hie : i = L.length := by omega
  all_goals have hqq : q = (s,1,if i = 0 then 0 else L[i - 1]!) := by rw [← hf,hie,List.drop_length]; rfl
  ·rw [hqq, if_neg (by omega)]
   refine aC (l := [eD s,iv 1,iv LI[((LI.length : Int) - 1).toNat]!]) rfl ?_
   rw [show ((LI.length : Int) - 1).toNat = i - 1 by omega,hgx (i - 1) (by omega)]
   exact ⟨rfl,by exact Pur.pf⟩
  ·rw [hqq, if_pos (by omega)]
   exact aC (l := [eD s,iv 1,iv 0]) rfl ⟨rfl,by exact Pur.pf⟩
  ·exfalso
   have hd1 : dn = true := by assumption
   obtain ⟨l,b,e1,e2⟩ := y7 pts n 0 cs (by rw [← hdn]; exact hd1)
   rw [← hLe] at e1
   have hlen : L.length = l.length + 1 := by rw [e1,List.length_append]; rfl
   have hb : L[l.length]! = b := by rw [aW _ _ (by omega)]; simp [e1]
   have := h11 l.length (by omega)
   rw [hb] at this
   exact this e2
theorem xY {ts:List Int}{pts:List Pnt}(w:WG ts pts) (A:WA ts pts):∀ n a cs,a < pts.length → ∀ x ∈ (cK pts n a cs).1,x < pts.length
 | 0, a, cs, ha, x, hx => by
  unfold cK at hx
  by_cases e : pts[a]!.op = 11
  ·rw [if_pos e] at hx;rw [List.mem_singleton.1 hx]; exact ha
  ·rw [if_neg e] at hx;exact absurd hx (by simp)
 | n + 1, a, cs, ha, x, hx => by
  rw [cK] at hx
  by_cases e : pts[a]!.op = 11
  ·rw [if_pos e] at hx;rw [List.mem_singleton.1 hx]; exact ha
  ·rw [if_neg e] at hx
   rcases List.mem_cons.1 hx with h|h
   ·rw [h]; exact ha
   ·have he := nU w A ha e cs
    have := w.nx a ha _ he.2
    exact xY w A n _ _ (by omega) x h
theorem nP {pts:List Pnt}:∀ n a cs,(cK pts n a cs).1.length ≤ n + 1
 | 0,a,cs => by unfold cK;split <;> simp
 | n + 1, a, cs => by
  rw [cK]; split
  ·simp
  ·have := nP (pts := pts) n (eV pts a cs).1 (eV pts a cs).2
   dsimp only;rw [List.length_cons]; omega
theorem Db (p:Prg) (cs:List Int) (n:Nat) (hv:cL p = true) (hl:p.types.length ≤ 1048576) (hs:aJ p.body ≤ 1048576) (hn:n ≤ 150) (hcl:cs.length ≤ 1048576):PC Go.Proofs.Tryz.prog 121 [cJ p,sl cI cs,iv (n:Int)] (fun r => r = .tup [eD (cQ p.types (bJ p) cs n).1,iv (cQ p.types (bJ p) cs n).2.1,iv (cQ p.types (bJ p) cs n).2.2]) :=
 Fj p cs n hv hl hs hn hcl (xY (WG.of_valid hv) (WA.of_valid hv) n 0 cs (WG.of_valid hv).p0) (by have := nP (pts := bJ p) n 0 cs;omega)
def uH (p : Prg) (most : Int) : Bool := cL p && (decide (0 ≤ most) && decide (most ≤ 150))
theorem BJ (p:Prg) (most:Int) (hl:p.types.length ≤ 1048576) (hs:aJ p.body ≤ 1048576):PC Tryz.prog 120 [cJ p,iv most] (fun r => r = bv (uH p most)):=by
 have hval := pM p hl (by omega)
 refine aD Tryz.func120 Tryz.ntmps120 ?_
 repeat' (first|(apply aF;(apply aB (k := 40);rfl;exact hval;exact Pur.pf;rfl))|refine aE ?_|(refine cS ?_ ?_ <;> intro hg hq <;> try (exfalso;omega))|fail)
 all_goals (refine aC rfl ⟨?_,rfl⟩; simp only [aN,AV.v.injEq,Value.bool.injEq]; unfold uH;grind)
theorem qB (p:Prg) (cs:List Int) (most:Int) (hl:p.types.length ≤ 1048576) (hs:aJ p.body ≤ 1048576) (hcl:cs.length ≤ 1048576):PC Tryz.prog 75 [cJ p,sl cI cs,iv most] (fun r => r = .tup (if uH p most = true then [iv (cQ p.types (bJ p) cs most.toNat).2.1,iv (cQ p.types (bJ p) cs most.toNat).2.2] else [iv 5,iv 0])):=by
 have hrt := BJ p most hl hs
 by_cases h : uH p most = true
 ·have h' := h
  unfold uH at h'
  simp only [Bool.and_eq_true,decide_eq_true_eq] at h'
  obtain ⟨hv,h0,h1⟩ := h'
  have hru := Db p cs most.toNat hv hl hs (by omega) hcl
  rw [Int.toNat_of_nonneg h0] at hru
  rw [h] at hrt
  rw [if_pos h]
  refine aD Tryz.func75 Tryz.ntmps75 ?_
  repeat' (first|(apply aF;first|(apply aB (k := 120);rfl;exact hrt;exact Pur.pf;rfl)|(apply aB (k := 121);rfl;exact hru;exact Pur.pf;rfl))|refine aE ?_|fail)
  exact aC (l := [iv (cQ p.types (bJ p) cs most.toNat).2.1,iv (cQ p.types (bJ p) cs most.toNat).2.2]) rfl ⟨rfl,rfl⟩
 ·rw [if_neg h]
  have h2 : uH p most = false := by simpa using h
  rw [h2] at hrt
  refine aD Tryz.func75 Tryz.ntmps75 ?_
  repeat' (first|(apply aF;(apply aB (k := 120);rfl;exact hrt;exact Pur.pf;rfl))|refine aE ?_|fail)
  exact aC (l := [iv 5,iv 0]) rfl ⟨rfl,rfl⟩
theorem G6 {p:Prg}{cs:List Int}{n:Nat}(hv:cL p = true):OkS p.types.length (cQ p.types (bJ p) cs n).1:=by
 have wa := WA.of_valid hv
 have hp : ∀ a : Nat, PtN (bJ p)[a]! := fun a => by
  by_cases h : a < (bJ p).length
  ·exact ⟨fun e => (wa.a a h).n (.inr e)⟩
  ·refine ⟨fun e => ?_⟩
   rw [BY,dif_neg h] at e
   exact absurd e (by decide)
 exact OkS.run hp _ _ _ (OkS.mc0 _)
theorem vN {ts:List Int}{s:Mc}{x:Pnt}:(bE ts s x).1.read.length ≤ s.read.length + 1:=by
 by_cases h : x.op = 11
 ·rw [oR h,oE]; omega
 ·exact vH h
theorem qW (ts:List Int) (pts:List Pnt):∀ (l:List Nat) (s:Mc) (last:Nat),(eW ts pts l s last).1.read.length ≤ s.read.length + l.length
 | [],s,last => by unfold eW;simp
 | a :: l, s, last => by
  have h := vN (ts := ts) (s := s) (x := pts[a]!)
  unfold eW;split
  ·dsimp only;omega
  ·split
   ·have := qW ts pts l (bE ts s pts[a]!).1 a
    rw [List.length_cons]; omega
   ·rw [List.length_cons]; dsimp only;omega
theorem xF {ts:List Int}{pts:List Pnt}{cs:List Int}{n:Nat}(hn:n ≤ 150):(cQ ts pts cs n).1.read.length ≤ 151:=by
 have h := qW ts pts (cK pts n 0 cs).1 (mc0 ts.length) 0
 have h2 := nP (pts := pts) n 0 cs
 have h3 : (mc0 ts.length).read.length = 0 := rfl
 unfold cQ;omega
theorem IS:Go.Proofs.Tryz.prog.underlying 249 = some (.map 3 4) := by kernel_rfl
theorem Ip:Go.Proofs.Tryz.prog.underlying 3 = some (.int .i64) := by kernel_rfl
theorem IP:(Go.Proofs.Tryz.prog.info? 4).bind (·.zero) = some (.bool false) := by kernel_rfl
theorem Ig {a b c:Int}(h:a ≤ b ∧ b ≤ c):(!(decide (a ≤ b) && decide (b ≤ c))) = false := by simp [h.1,h.2]
theorem fD (m:List Cl) (hm:OkM m):PC Tryz.prog 218 [sl a8 m] (fun r => r = bv true):=by
 have hml := hm.l
 refine aD Tryz.func218 Tryz.ntmps218 ?_
 repeat' (first|refine aE ?_|(refine aL ?_ ?_ <;> intro hc hq <;> try (exfalso;omega))|fail)
 all_goals (try (exfalso;omega))
 refine aK (σ := Nat) [11,12] [] (fun i => [(13,iv (i : Int))]) (fun i => []) (fun i => i ≤ m.length) (fun i => m.length - i) (0) (Nat.zero_le _) ?_
 rintro i hi
 by_cases hin : i < m.length
 ·have hc := (b9 m).1 hm |>.2 i hin
  obtain ⟨h1,h2,h3,h4,h5⟩ := (lU _).1 hc
  repeat' (first|(apply aF;(apply aB (k := 55);rfl;(apply cH);(rfl);rfl))|(apply zH;with_reducible apply BS)|refine aE ?_|(refine aL ?_ ?_ <;> intro hc hq <;> try (exfalso;omega))|(refine cS ?_ ?_ <;> intro hg hq <;> try (exfalso;omega))|fail)
  ·exfalso
   have hu : m[i]!.stk[Int.toNat 0]!.uq = false := by assumption
   rw [show Int.toNat 0 = 0 from rfl,h4] at hu;exact absurd hu (by decide)
  ·refine HS (CC rfl (fun r => ?_))
   refine wG ?_
   repeat' (first|refine b8 ?_|fail)
   refine ⟨rfl,rfl,?_⟩
   refine iL (lI ?_)
   repeat' (first|refine aE ?_|fail)
   show nK _ _ _ _ _ _ _
   refine qZ ?_
   refine AM (σ := Nat) [4,5,11,12,13,44,45] [(4,_),(5,_),(11,_),(12,_),(13,_),(44,_),(45,_)] [0] [(0,some _)] (fun k => [(46,iv (k : Int))]) (fun k => []) (fun k => (m[i]!.stk.take k).map (·.id)) (fun k => k ≤ m[i]!.stk.length) (fun k => m[i]!.stk.length - k) (0) (Nat.zero_le _) (rfl) rfl rfl (by repeat' (first|exact trivial|refine And.intro rfl ?_)) (by repeat' (exact trivial)) ?_
   rintro k hk
   refine iL (lI ?_)
   repeat' (first|refine aE ?_|fail)
   show nK _ _ _ _ _ _ _
   refine iL (wA rfl (fun hb => vE ?_) (fun hb => B1 ?_))
   ·show nK _ _ _ _ _ _ _
    have hkl : k < m[i]!.stk.length := by have := of_decide_eq_true hb;omega
    obtain ⟨g1,g2,g3⟩ := h5 k hkl
    have hw := Ig (a := 0) (b := m[i]!.stk[k]!.id) (c := m[i]!.next - 1) ⟨g1,by omega⟩
    have hni : m[i]!.stk[k]!.id ∉ (m[i]!.stk.take k).map (·.id) := fun q => by
     obtain ⟨t,ht,e⟩ := List.mem_map.1 q
     obtain ⟨j,hj,rfl⟩ := List.getElem_of_mem ht
     rw [List.length_take] at hj
     have f := pI (stk := m[i]!.stk) (id := m[i]!.stk[k]!.id) (by omega) j (by omega)
     rw [aW _ _ (by omega)] at f
     rw [List.getElem_take] at e
     exact f e
    refine iL (qZ (iL (lI ?_)))
    repeat' (first|refine aE ?_|fail)
    show nK _ _ _ _ _ _ _
    refine iL (iL (pK ?_))
    refine vD (l1 := [_,_,_,_,_,_,_,_,_,_,_]) (l2 := [_,_]) ?_
    repeat' (first|(apply aF;(apply aB (k := 55);rfl;(apply cH);(rfl);rfl))|refine b8 ?_|fail)
    refine ⟨rfl,?_⟩
    refine AY rfl rfl hw ?_
    refine yA IS Ip IP rfl rfl hni rfl ?_
    refine wG ?_
    repeat' (first|refine b8 ?_|fail)
    refine ⟨rfl,?_⟩
    show nK _ _ _ _ _ _ _
    refine wA rfl (fun h => by cases h) (fun _ => vE ?_)
    show nK _ _ _ _ _ _ _
    refine pK ?_
    refine vD (l1 := [_,_,_]) (l2 := [_]) ?_
    repeat' (first|refine b8 ?_|fail)
    refine ⟨rfl,?_⟩
    refine wU IS Ip IP rfl rfl hni ?_
    refine Fv ?_
    show nK _ _ _ _ _ _ _
    refine lI ?_
    repeat' (first|refine aE ?_|fail)
    refine ⟨k + 1,by omega,by omega,?_,?_⟩
    ·refine Le.ren [(0,0)] rfl (by decide) ?_ ?_ <;> repeat' (first|exact trivial|refine And.intro ⟨_,rfl,?_⟩ ?_|refine And.intro ⟨_,_,rfl,rfl,?_⟩ ?_|exact Or.inr rfl|refine Or.inl ⟨?_,(by first|rfl|exact cR _ _|exact Pur.pf)⟩|rfl)
    ·rw [cO _ k hkl,List.map_append]; rfl
   ·have hkl : k = m[i]!.stk.length := by have := of_decide_eq_false hb; omega
    refine Cy ?_
    show xL 1 _ _ _
    repeat' (first|refine aE ?_|fail)
    (refine c9 (i + 1) (Le.renA []) ?_ ?_)
    ·omega
    ·omega
 ·repeat' (first | refine aE ?_ | (refine aL ?_ ?_ <;> intro hc hq <;> try (exfalso; omega))|fail)
  refine aC rfl ⟨rfl,rfl⟩
theorem Le.bump {ts:List (Nat × AV)}{hs:List (Nat × Option (List AV))}{n:Nat}{z0:Lo}(k:Nat):Le ⟨ts,hs,n,z0⟩ ⟨ts,hs,n + k,z0⟩ := Le.of (fun _ _ h => h) (fun _ _ h => h) (Nat.le_add_right _ _) rfl
theorem qQ {m:List Cl}{x0:Operand}(ha0:ev (lk tsl) x0 = some (sl a8 m)) (hmc:MC Tryz.prog 226 [sl a8 m] [] 0 (fun _:Unit => True) (fun _ => .own 1 0 m.length 4) (fun _ => [(1,some (aA a8 m))])) (hM:Nat.ble (nidl + 2) cW = true) (hN:Nat.blt d N = true){md':Md}[hmd:MdA md (fH [x0] ++ []) (List.map Sum.inr (List.map Prod.fst ([((nidl + 1),some (aA a8 m))]:List (Nat × Option (List AV)))) ++ [.inl d]) md'] (kk:RW Tryz.prog N all Q md' rest ⟨(d,.own (nidl + 1) 0 m.length 4) :: tsl,gH hsl [((nidl + 1),some (aA a8 m))],nidl + 2,z0⟩):RW Tryz.prog N all Q md (⟨some d,.call ⟨.value (.func 226),#[x0],tys⟩,ty,pos,af,none⟩ :: rest) ⟨tsl,hsl,nidl,z0⟩:=by
 exact aZ (l := [x0]) [] 2 [((nidl + 1),some (aA a8 m))] hmc (avs := [sl a8 m]) (by simp only [evL,ha0]) rfl hM hN (md' := md') (hmd := hmd) kk
theorem uC (m:List Cl) (hl:m.length ≤ 1048576):MC Tryz.prog 226 [sl a8 m] [] 0 (fun _:Unit => True) (fun _ => .own 1 0 m.length 4) (fun _ => [(1,some (aA a8 m))]):=by
 refine aT Tryz.func226 Tryz.ntmps226 ?_
 repeat' (first|(apply aF;(apply tV;rfl;rfl;(intro b hb)))|refine aE ?_|(refine aL ?_ ?_ <;> intro hc hq <;> try (exfalso;omega))|fail)
 ·have h0 : m = [] := List.eq_nil_of_length_eq_zero (hb (by assumption))
  subst h0
  refine bD (Le.bump 1) ?_
  refine bD (Le.nilOwn (d := 2) 4 rfl (by decide)) ?_
  (refine aC rfl ?_; refine aQ () trivial ?_ ⟨sE ?_,trivial⟩)
  ·rfl
  ·rfl
 ·(refine aC rfl ?_; refine aQ () trivial ?_ ⟨sE ?_, trivial⟩)
  ·show AV.own 1 0 (0 + m.length) 4 = _; rw [Nat.zero_add]
  ·rfl
theorem l7 {m:List Tg}{x0:Operand}(ha0:ev (lk tsl) x0 = some (sl bT m)) (hmc:MC Tryz.prog 227 [sl bT m] [] 0 (fun _:Unit => True) (fun _ => .own 1 0 m.length 2) (fun _ => [(1,some (aA bT m))])) (hM:Nat.ble (nidl + 2) cW = true) (hN:Nat.blt d N = true){md':Md}[hmd:MdA md (fH [x0] ++ []) (List.map Sum.inr (List.map Prod.fst ([((nidl + 1),some (aA bT m))]:List (Nat × Option (List AV)))) ++ [.inl d]) md'] (kk:RW Tryz.prog N all Q md' rest ⟨(d,.own (nidl + 1) 0 m.length 2) :: tsl,gH hsl [((nidl + 1),some (aA bT m))],nidl + 2,z0⟩):RW Tryz.prog N all Q md (⟨some d,.call ⟨.value (.func 227),#[x0],tys⟩,ty,pos,af,none⟩ :: rest) ⟨tsl,hsl,nidl,z0⟩:=by
 exact aZ (l := [x0]) [] 2 [((nidl + 1),some (aA bT m))] hmc (avs := [sl bT m]) (by simp only [evL,ha0]) rfl hM hN (md' := md') (hmd := hmd) kk
theorem vC (m:List Tg) (hl:m.length ≤ 1048576):MC Tryz.prog 227 [sl bT m] [] 0 (fun _:Unit => True) (fun _ => .own 1 0 m.length 2) (fun _ => [(1,some (aA bT m))]):=by
 refine aT Tryz.func227 Tryz.ntmps227 ?_
 repeat' (first|(apply aF;(apply tV;rfl;rfl;(intro b hb)))|refine aE ?_|(refine aL ?_ ?_ <;> intro hc hq <;> try (exfalso;omega))|fail)
 ·have h0 : m = [] := List.eq_nil_of_length_eq_zero (hb (by assumption))
  subst h0
  refine bD (Le.bump 1) ?_
  refine bD (Le.nilOwn (d := 2) 2 rfl (by decide)) ?_
  (refine aC rfl ?_; refine aQ () trivial ?_ ⟨sE ?_,trivial⟩)
  ·rfl
  ·rfl
 ·(refine aC rfl ?_; refine aQ () trivial ?_ ⟨sE ?_, trivial⟩)
  ·show AV.own 1 0 (0 + m.length) 2 = _; rw [Nat.zero_add]
  ·rfl
theorem Ec (t:Tg) (c g:Int):PC Tryz.prog 229 [Jr t,.iptr [iv c,iv g]] (fun r => r = bv (decide (t.id = g))):=by
 refine aD Tryz.func229 Tryz.ntmps229 ?_
 repeat' (first|refine aE ?_|fail)
 exact aC rfl ⟨rfl,rfl⟩
theorem uP (t:Tg):PC Tryz.prog 231 [Jr t] (fun r => r = bv t.uq):=by
 refine aD Tryz.func231 Tryz.ntmps231 ?_
 repeat' (first|refine aE ?_|fail)
 exact aC rfl ⟨rfl,rfl⟩
theorem sC (stk:List Tg) (c g:Int) (hl:stk.length ≤ 1048576):PC Tryz.prog 228 [sl bT stk,.clos (.func 229) [] [.iptr [iv c,iv g]]] (fun r => r = iv (bH stk g)):=by
 refine aD Tryz.func228 Tryz.ntmps228 ?_
 repeat' (first|refine aE ?_|fail)
 refine aK (σ := Nat) [0,1,7] [] (fun k => [(8,iv (k : Int))]) (fun k => []) (fun k => k ≤ stk.length ∧ ∀ j,j < k → stk[j]!.id ≠ g) (fun k => stk.length - k) (0) ⟨by omega,by omega⟩ ?_
 rintro k ⟨hk,hall⟩
 by_cases hkn : k < stk.length
 ·have hcl := Ec stk[k]! c g
  repeat' (first|(apply aF;(apply lW;rfl;rfl;infer_instance;rfl;(apply hcl);(rfl);rfl))|refine aE ?_|(refine aL ?_ ?_ <;> intro hc hq <;> try (exfalso;omega))|fail)
  ·refine aC rfl ⟨?_, rfl⟩
   simp only [aN]; rw [sQ hkn (by assumption) hall]
  ·(refine c9 (k + 1) (Le.renA []) ?_ ?_)
   ·refine ⟨by omega, fun j hj => ?_⟩
    by_cases e : j = k
    ·subst e;assumption
    ·exact hall j (by omega)
   ·omega
 ·repeat' (first | refine aE ?_ | (refine aL ?_ ?_ <;> intro hc hq <;> try (exfalso; omega))|fail)
  refine aC rfl ⟨?_,rfl⟩
  have h2 : bH stk g < 0 := j5.2 (fun t ht => by obtain ⟨j,hj,rfl⟩ := List.getElem_of_mem ht;have := hall j (by omega);rwa [aW _ _ hj] at this)
  have hb := cZ stk g
  simp only [aN]; rw [show bH stk g = -1 by omega]
def m7 (xs : List Tg) : Int := match xs.findIdx? (fun t => t.uq) with | some i => i | none => -1
theorem EK (stk:List Tg) (hl:stk.length ≤ 1048576):PC Tryz.prog 228 [sl bT stk,.v (.func (.func 231) #[] #[])] (fun r => r = iv (m7 stk)):=by
 refine aD Tryz.func228 Tryz.ntmps228 ?_
 repeat' (first|refine aE ?_|fail)
 refine aK (σ := Nat) [0,1,7] [] (fun k => [(8,iv (k : Int))]) (fun k => []) (fun k => k ≤ stk.length ∧ ∀ j,j < k → stk[j]!.uq = false) (fun k => stk.length - k) (0) ⟨by omega,by omega⟩ ?_
 rintro k ⟨hk,hall⟩
 by_cases hkn : k < stk.length
 ·have hcl := uP stk[k]!
  repeat' (first|(apply aF;(apply lW;rfl;rfl;infer_instance;rfl;(apply hcl);(rfl);rfl))|refine aE ?_|(refine aL ?_ ?_ <;> intro hc hq <;> try (exfalso;omega))|fail)
  ·refine aC rfl ⟨?_, rfl⟩
   have hu : stk[k]!.uq = true := by assumption
   have : stk.findIdx? (fun t => t.uq) = some k := by
    rw [List.findIdx?_eq_some_iff_getElem]
    refine ⟨hkn,by rw [← aW stk k hkn]; exact hu,fun j hj => ?_⟩
    have := hall j hj;rw [aW stk j (by omega)] at this;rw [this]; decide
   simp only [aN,m7,this]
  ·have hu : stk[k]!.uq = false := by assumption
   (refine c9 (k + 1) (Le.renA []) ?_ ?_)
   ·refine ⟨by omega, fun j hj => ?_⟩
    by_cases e : j = k
    ·subst e;exact hu
    ·exact hall j (by omega)
   ·omega
 ·repeat' (first | refine aE ?_ | (refine aL ?_ ?_ <;> intro hc hq <;> try (exfalso; omega))|fail)
  refine aC rfl ⟨?_,rfl⟩
  have : stk.findIdx? (fun t => t.uq) = none := by
   rw [List.findIdx?_eq_none_iff]
   intro x hx
   obtain ⟨j,hj,rfl⟩ := List.getElem_of_mem hx
   have := hall j (by omega);rw [aW stk j hj] at this;exact this
  simp only [aN,m7,this]
theorem Ix {xs:List Tg}{k:Nat}{a:Int}{b:Bool}(hk:k < xs.length):eR (aA bT xs) (0 + k * 2) [iv a,bv b] = aA bT (xs.set k ⟨a,b⟩) := hG hk rfl
theorem BX {cs new:List AV}{k:Nat}(h:k ≤ cs.length):(eR cs (0 + k) new).take k = cs.take k:=by
 unfold eR
 rw [Nat.zero_add,List.append_assoc,List.take_left' (by rw [List.length_take]; omega)]
def shr (xs : List Tg) : List Tg := xs.filter (fun t => !t.uq)
theorem Bo {xs:List Tg}(h:m7 xs = -1):shr xs = xs:=by
 unfold m7 at h
 split at h
 ·omega
 ·rename_i hn
  rw [List.findIdx?_eq_none_iff] at hn
  unfold shr
  rw [List.filter_eq_self]
  intro t ht
  have := hn t ht
  simp [this]
theorem Bl {xs:List Tg}{i:Nat}(h:m7 xs = (i:Int)):i < xs.length ∧ xs[i]!.uq = true ∧ shr (xs.take (i + 1)) = xs.take i:=by
 unfold m7 at h
 split at h
 ·rename_i k hk
  obtain ⟨h1,h2,h3⟩ := List.findIdx?_eq_some_iff_getElem.1 hk
  have e : k = i := by omega
  subst e
  have hs : shr (xs.take k) = xs.take k := by
   unfold shr
   rw [List.filter_eq_self]
   intro t ht
   obtain ⟨j,hj,rfl⟩ := List.getElem_of_mem ht
   rw [List.length_take] at hj
   have := h3 j (by omega)
   rw [List.getElem_take]; simpa using this
  refine ⟨h1,by rw [aW _ _ h1]; exact h2,?_⟩
  rw [cO xs k h1]
  unfold shr at hs ⊢
  rw [List.filter_append,hs,j9 (by rw [aW _ _ h1,h2]; rfl),List.append_nil]
 ·omega
theorem FO (xs:List Tg):-1 ≤ m7 xs ∧ m7 xs < xs.length:=by
 unfold m7
 split
 ·rename_i k hk
  obtain ⟨h1,_⟩ := List.findIdx?_eq_some_iff_getElem.1 hk
  omega
 ·omega
theorem E6 {xs:List Tg}{j:Nat}(hj:j < xs.length) (h:xs[j]!.uq = false):shr (xs.take (j + 1)) = shr (xs.take j) ++ [xs[j]!]:=by
 rw [cO xs j hj]; unfold shr
 rw [List.filter_append,mI (by rw [h]; rfl)]
theorem DC {xs:List Tg}{j:Nat}(hj:j < xs.length) (h:xs[j]!.uq = true):shr (xs.take (j + 1)) = shr (xs.take j):=by
 rw [cO xs j hj]; unfold shr
 rw [List.filter_append,j9 (by rw [h]; rfl),List.append_nil]
theorem Ce {α:Type}[Inhabited α] {L:List α}{i:Nat}{x:α}(h:i < L.length):(L.set i x).take (i + 1) = L.take i ++ [x]:=by
 rw [List.set_eq_take_append_cons_drop,if_pos h]
 have h1 : (L.take i).length = i := by rw [List.length_take]; omega
 rw [List.take_append,h1,show i + 1 - i = 1 by omega,List.take_of_length_le (by omega)]
 rfl
theorem C7 {α:Type}[Inhabited α] {L M:List α}{j:Nat}(h:L.drop j = M.drop j) (hl:L.length = M.length) (hj:j < M.length):L[j]! = M[j]!:=by
 rw [aW _ _ (by omega),aW _ _ hj]
 rw [List.drop_eq_getElem_cons (by omega : j < L.length),List.drop_eq_getElem_cons hj] at h
 exact (List.cons.inj h).1
theorem pC {α:Type}{L M:List α}{j:Nat}(h:L.drop j = M.drop j):L.drop (j + 1) = M.drop (j + 1):=by
 rw [← List.drop_drop,h,List.drop_drop]
theorem FD {xs:List Tg}{m:Nat}{x0 x1:Operand}{i0:Nat}(ha0:ev (lk tsl) x0 = some (.own i0 0 m 2)) (ha1:ev (lk tsl) x1 = some (.v (.func (.func 231) #[] #[]))) (hH0:aO hsl i0 = some (aA bT xs)) (hmc:MC Tryz.prog 230 [.own 0 0 m 2,.v (.func (.func 231) #[] #[])] [(0,some (aA bT xs))] 1 (fun _:Unit => True) (fun _ => .own 0 0 (shr xs).length 2) (fun _ => [(0,some (aA bT (shr xs)))])) (hM:Nat.ble (nidl + 0) cW = true) (hN:Nat.blt d N = true){md':Md}[hmd:MdA md (fH [x0,x1] ++ [.inr i0]) (List.map Sum.inr (List.map Prod.fst ([(i0,some (aA bT (shr xs)))]:List (Nat × Option (List AV)))) ++ [.inl d]) md'] (kk:RW Tryz.prog N all Q md' rest ⟨(d,.own i0 0 (shr xs).length 2) :: tsl,gH hsl [(i0,some (aA bT (shr xs)))],nidl + 0,z0⟩):RW Tryz.prog N all Q md (⟨some d,.call ⟨.value (.func 230),#[x0,x1],tys⟩,ty,pos,af,none⟩ :: rest) ⟨tsl,hsl,nidl,z0⟩:=by
 exact aZ (l := [x0,x1]) [i0] 1 [(i0,some (aA bT (shr xs)))] hmc (avs := [.own i0 0 m 2,.v (.func (.func 231) #[] #[])]) (by simp only [evL,ha0,ha1]) rfl hM hN (md' := md') (hmd := hmd) kk
theorem HT (xs:List Tg) (m:Nat) (hm:m = xs.length) (hl:m ≤ 1048576):MC Tryz.prog 230 [.own 0 0 m 2,.v (.func (.func 231) #[] #[])] [(0,some (aA bT xs))] 1 (fun _:Unit => True) (fun _ => .own 0 0 (shr xs).length 2) (fun _ => [(0,some (aA bT (shr xs)))]):=by
 subst hm
 have hix := EK xs hl
 have hbd := FO xs
 by_cases hn : m7 xs = -1
 ·rw [hn] at hix
  have hs := Bo hn
  refine aT Tryz.func230 Tryz.ntmps230 ?_
  repeat' (first|(apply aF;(apply oQ (k := 228);(case ha => rfl);(case hl => (repeat' (first|exact mF|apply kS|exact Ag|exact mM rfl inferInstance)));(case h => exact hix);(case hfr|hN => rfl);(case hmd => infer_instance)))|refine aE ?_|fail)
  all_goals (
   (refine aC rfl ?_; refine aQ () trivial ?_ ⟨sE ?_,trivial⟩)
   ·rw [hs]; rfl
   ·rw [hs])
 ·obtain ⟨i0, hi0⟩ := Int.eq_ofNat_of_zero_le (show 0 ≤ m7 xs by omega)
  obtain ⟨g1,g2,g3⟩ := Bl hi0
  rw [hi0] at hix
  refine aT Tryz.func230 Tryz.ntmps230 ?_
  repeat' (first|(apply aF;(apply oQ (k := 228);(case ha => rfl);(case hl => (repeat' (first|exact mF|apply kS|exact Ag|exact mM rfl inferInstance)));(case h => exact hix);(case hfr|hN => rfl);(case hmd => infer_instance)))|refine aE ?_|fail)
  all_goals (try (exfalso;omega))
  refine aK (σ := List Tg × Nat × Nat) [0,1] [] (fun s => [(5,iv (s.2.1 : Int)),(6,iv (s.2.2 : Int))]) (fun s => [(0,some (aA bT s.1))]) (fun s => s.1.length = xs.length ∧ s.1.take s.2.1 = shr (xs.take s.2.2) ∧ s.1.drop s.2.2 = xs.drop s.2.2 ∧ s.2.1 < s.2.2 ∧ s.2.2 ≤ xs.length) (fun s => xs.length - s.2.2) (xs,i0,i0 + 1) ⟨rfl,g3.symm,rfl,by dsimp only;omega,by dsimp only;omega⟩ ?_
  rintro ⟨L,i,j⟩ ⟨hL,ht,hd,hij,hj⟩
  dsimp only at hL ht hd hij hj ⊢
  by_cases hjn : j < xs.length
  ·have hcl := uP L[j]!
   have hg := C7 hd hL hjn
   repeat' (first|(apply aF;first|(apply bC;rfl;rfl;rfl;rfl;rfl;(case hl => (first|(rw [aI]; simp only [kH] <;> omega)|(simp;done)));(exact Ix (by (first|assumption|omega))))|(apply lW;rfl;rfl;infer_instance;rfl;(apply hcl);(rfl);rfl))|refine aE ?_|(refine aL ?_ ?_ <;> intro hc hq <;> try (exfalso;omega))|fail)
   ·have hu : L[j]!.uq = false := by assumption
    (refine c9 (_,i + 1,j + 1) (Le.renA []) ?_ ?_)
    ·refine ⟨by dsimp only; rw [List.length_set]; exact hL, ?_, ?_, by dsimp only; omega, by dsimp only; omega⟩
     ·dsimp only
      rw [Ce (by omega),ht,E6 hjn (by rw [← hg]; exact hu),hg]
     ·dsimp only
      rw [List.drop_set_of_lt (by omega)]
      exact pC hd
    ·dsimp only;omega
   ·have hu : L[j]!.uq = true := by assumption
    (refine c9 (L,i,j + 1) (Le.renA []) ?_ ?_)
    ·refine ⟨hL, ?_, pC hd, by dsimp only; omega, by dsimp only; omega⟩
     dsimp only
     rw [ht,DC hjn (by rw [← hg]; exact hu)]
    ·dsimp only;omega
  ·have hfl : (aA bT L).length = L.length * 2 := aI bT L
   repeat' (first|(apply aF;first|(apply hD (d := 38) (l := i) (h := xs.length);rfl;rfl;exact mK rfl (by omega);rfl;exact if_pos (by omega);rfl)|(apply hD (d := 41) (l := 0) (h := i);rfl;rfl;rfl;exact mK rfl (by omega);exact if_pos (by omega);rfl)|(apply Ck;rfl;rfl;omega;rfl;(rw [hfl]; omega);rfl))|refine aE ?_|(refine aL ?_ ?_ <;> intro hc hq <;> try (exfalso;omega))|fail)
   refine bD (Le.cut (i := 0) (i * 2) rfl) ?_
   have hje : j = xs.length := by omega
   have hLt : L.take i = shr xs := by rw [ht,hje,List.take_length]
   have hil : (shr xs).length = i := by rw [← hLt,List.length_take]; omega
   (refine aC rfl ?_; refine aQ () trivial ?_ ⟨sE ?_,trivial⟩)
   ·show AV.own 0 (0 + 0 * 2) (i - 0) 2 = _
    rw [hil]; rfl
   ·rw [BX (by omega),eE bT (e := 2),hLt]
theorem fE {m:List Cl}{x0:Operand}(ha0:ev (lk tsl) x0 = some (sl a8 m)) (hmc:MC Tryz.prog 220 [sl a8 m] [] 0 (fun _:Unit => True) (fun _ => .own 1 0 m.length 4) (fun _ => [(1,some (aA a8 m))])) (hM:Nat.ble (nidl + 2) cW = true) (hN:Nat.blt d N = true){md':Md}[hmd:MdA md (fH [x0] ++ []) (List.map Sum.inr (List.map Prod.fst ([((nidl + 1),some (aA a8 m))]:List (Nat × Option (List AV)))) ++ [.inl d]) md'] (kk:RW Tryz.prog N all Q md' rest ⟨(d,.own (nidl + 1) 0 m.length 4) :: tsl,gH hsl [((nidl + 1),some (aA a8 m))],nidl + 2,z0⟩):RW Tryz.prog N all Q md (⟨some d,.call ⟨.value (.func 220),#[x0],tys⟩,ty,pos,af,none⟩ :: rest) ⟨tsl,hsl,nidl,z0⟩:=by
 exact aZ (l := [x0]) [] 2 [((nidl + 1),some (aA a8 m))] hmc (avs := [sl a8 m]) (by simp only [evL,ha0]) rfl hM hN (md' := md') (hmd := hmd) kk
theorem lJ {m:List Cl}{j:Nat}{x0:Operand}(ha0:ev (lk tsl) x0 = some (sl a8 m)) (hmc:MC Tryz.prog 220 [sl a8 m] [] 0 (fun _:Unit => True) (fun _ => .own 1 0 m.length 4) (fun _ => [(1,some (aA dK (cF m j (.own 2 0 m[j]!.stk.length 2)))),(2,some (aA bT m[j]!.stk))])) (hM:Nat.ble (nidl + 3) cW = true) (hN:Nat.blt d N = true){md':Md}[hmd:MdA md (fH [x0] ++ []) (List.map Sum.inr (List.map Prod.fst ([((nidl + 1),some (aA dK (cF m j (.own (nidl + 2) 0 m[j]!.stk.length 2)))),((nidl + 2),some (aA bT m[j]!.stk))]:List (Nat × Option (List AV)))) ++ [.inl d]) md'] (kk:RW Tryz.prog N all Q md' rest ⟨(d,.own (nidl + 1) 0 m.length 4) :: tsl,gH hsl [((nidl + 1),some (aA dK (cF m j (.own (nidl + 2) 0 m[j]!.stk.length 2)))),((nidl + 2),some (aA bT m[j]!.stk))],nidl + 3,z0⟩):RW Tryz.prog N all Q md (⟨some d,.call ⟨.value (.func 220),#[x0],tys⟩,ty,pos,af,none⟩ :: rest) ⟨tsl,hsl,nidl,z0⟩:=by
 exact aZ (l := [x0]) [] 3 [((nidl + 1),some (aA dK (cF m j (.own (nidl + 2) 0 m[j]!.stk.length 2)))),((nidl + 2),some (aA bT m[j]!.stk))] hmc (avs := [sl a8 m]) (by simp only [evL,ha0]) rfl hM hN (md' := md') (hmd := hmd) kk
theorem lN {α:Type}[Inhabited α] (l:List α) (k:Nat):l.set k l[k]! = l:=by
 rcases Nat.lt_or_ge k l.length with h|h
 ·rw [aW _ _ h]; simp
 ·exact List.set_eq_of_length_le h
theorem zX {m:List Cl}{i:Nat}(hi:i < m.length):eR (aA a8 m) (0 + i * 4 + 3) [sl bT m[i]!.stk] = aA a8 m:=by
 have h := xU (xs := m) (k := i) (s := m[i]!.stk) hi
 rw [show m.set i { m[i]! with stk := m[i]!.stk } = m from lN m i] at h
 exact h
theorem yR {m:List Cl}{i j:Nat}{X:AV}(hi:i < m.length) (h:i ≠ j):(cF m j X)[i]! = m4 m[i]!:=by
 unfold cF
 rw [aW _ _ (by rw [List.length_set,List.length_map]; exact hi),List.getElem_set_ne (fun e => h e.symm),List.getElem_map,aW _ _ hi]
theorem FX {m:List Cl}{i j:Nat}{X:AV}(h:i < m.length ∧ i ≠ j):eR (aA dK (cF m j X)) (0 + i * 4 + 3) [sl bT m[i]!.stk] = aA dK (cF m j X):=by
 have hl := cD (m := m) (j := j) (X := X)
 have e : (cF m j X).set i { (cF m j X)[i]! with av := sl bT m[i]!.stk } = cF m j X := by
  rw [yR h.1 h.2]
  have : ({ m4 m[i]! with av := sl bT m[i]!.stk } : Co) = (cF m j X)[i]! := by rw [yR h.1 h.2]; rfl
  rw [this]; exact lN _ _
 rw [← e]
 have := dD (f := dK) (xs := cF m j X) (k := i) (j := 3) (new := [sl bT m[i]!.stk]) (y := { (cF m j X)[i]! with av := sl bT m[i]!.stk }) (by rw [hl]; exact h.1) (by simp) rfl
 rw [e] at this ⊢
 exact this
theorem k7 {mp:List (Nat × Nat)}{lo:Lo}:∀ {cs:List AV},bF cs = true → All2 (p7 mp lo) cs cs
 | [],_ => .nil
 | c :: cs, h => by
  simp only [bF,Bool.and_eq_true] at h
  exact .cons (.inl ⟨rfl,h.1⟩) (k7 h.2)
theorem pL {α β:Type}{R:α → β → Prop}:∀ {a:List α}{b:List β}{c:List α}{d:List β},All2 R a b → All2 R c d → All2 R (a ++ c) (b ++ d)
 | _,_,_,_,.nil,h => h
 | _,_,_,_,.cons h1 h2,h => .cons h1 (pL h2 h)
theorem Ae {mp:List (Nat × Nat)}{lo:Lo}{m:List Cl}{j k i i':Nat}(h:j < m.length) (hr:FV mp lo (.own i 0 k 2) = some (.own i' 0 k 2)):All2 (p7 mp lo) (aA dK (cF m j (.own i 0 k 2))) (aA dK (cF m j (.own i' 0 k 2))):=by
 rw [gC h,gC h]
 exact pL (k7 (inferInstance : Pur (aA a8 _)).pf) (pL (k7 (inferInstance : Pur [iv _,bv _,iv _]).pf) (.cons (.inr hr) (k7 (inferInstance : Pur (aA a8 _)).pf)))
theorem gW (m:List Cl) (hm:OkM m):MC Tryz.prog 220 [sl a8 m] [] 0 (fun _:Unit => True) (fun _ => .own 1 0 m.length 4) (fun _ => [(1,some (aA a8 m))]):=by
 have hml := hm.l
 have hcc := uC m (by omega)
 refine aT Tryz.func220 Tryz.ntmps220 ?_
 repeat' (first|(apply aF;(apply qQ;rfl;exact hcc;rfl;rfl))|refine aE ?_|fail)
 refine aK (σ := Nat) [3,8,9] [] (fun k => [(10,iv (k : Int))]) (fun k => [(1,some (aA a8 m))]) (fun k => k ≤ m.length) (fun k => m.length - k) (0) (Nat.zero_le _) ?_
 rintro i hi
 by_cases hin : i < m.length
 ·have hst : m[i]!.stk.length ≤ 200 := (((b9 m).1 hm).2 i hin).l.2
  have hct := vC m[i]!.stk (by omega)
  repeat' (first|(apply aF;first|(apply l7;rfl;exact hct;rfl;rfl)|(with_reducible apply a6 (d := 20)))|refine aE ?_|(refine aL ?_ ?_ <;> intro hc hq <;> try (exfalso;omega))|fail)
  refine b7 (fK ?_ (Le.frzD (d := 19) (i := 4) rfl rfl))
  repeat' (first|(apply aF;(apply bC;rfl;rfl;rfl;rfl;rfl;(rw [aI]; simp only [kH] <;> omega);(exact zX (by (assumption)))))|refine aE ?_|fail)
  (apply c9 (i + 1);focus (refine Le.ren [(1,1)] rfl (by decide) ?_ ?_ <;> repeat' (first|exact trivial|refine And.intro ⟨_,rfl,?_⟩ ?_|refine And.intro ⟨_,_,rfl,rfl,?_⟩ ?_|exact Or.inr rfl|refine Or.inl ⟨?_,(by first|rfl|exact cR _ _)⟩|rfl)))
  ·omega
  ·omega
 ·repeat' (first | refine aE ?_ | (refine aL ?_ ?_ <;> intro hc hq <;> try (exfalso; omega))|fail)
  (refine aC rfl ?_; refine aQ () trivial ?_ ⟨sE ?_,trivial⟩)
  ·rfl
  ·rfl
theorem pH (m:List Cl) (j:Nat) (hm:OkM m) (hj:j < m.length):MC Tryz.prog 220 [sl a8 m] [] 0 (fun _:Unit => True) (fun _ => .own 1 0 m.length 4) (fun _ => [(1,some (aA dK (cF m j (.own 2 0 m[j]!.stk.length 2)))),(2,some (aA bT m[j]!.stk))]):=by
 have hml := hm.l
 have hcc := uC m (by omega)
 refine aT Tryz.func220 Tryz.ntmps220 ?_
 repeat' (first|(apply aF;(apply qQ;rfl;exact hcc;rfl;rfl))|refine aE ?_|fail)
 refine AW.le ?_ (Le.bump 1)
 refine aK (σ := Nat × Bool) [3,8,9] [] (fun k => [(10,iv (k.1 : Int))]) (fun k => [(1,some (cond k.2 (aA dK (cF m j (.own 2 0 m[j]!.stk.length 2))) (aA a8 m))),(2,cond k.2 (some (aA bT m[j]!.stk)) none)]) (fun k => k.1 ≤ m.length ∧ k.2 = decide (j < k.1)) (fun k => m.length - k.1) (0,false) ⟨Nat.zero_le _,by simp⟩ ?_
 rintro ⟨i,b⟩ ⟨hi,hb⟩
 dsimp only at hi hb ⊢
 by_cases hin : i < m.length
 ·have hst : m[i]!.stk.length ≤ 200 := (((b9 m).1 hm).2 i hin).l.2
  have hct := vC m[i]!.stk (by omega)
  by_cases hij : j < i
  ·rw [decide_eq_true hij] at hb; subst hb
   simp only [cond_true]
   have hol := cD (m := m) (j := j) (X := .own 2 0 m[j]!.stk.length 2)
   have hon := yR (m := m) (i := i) (j := j) (X := .own 2 0 m[j]!.stk.length 2) hin (by omega)
   repeat' (first|(apply aF;(with_reducible apply a6 (d := 5)))|refine aE ?_|(refine aL ?_ ?_ <;> intro hc hq <;> try (exfalso;omega))|fail)
   refine b7 ?_
   rw [hon]
   dsimp only [m4]
   repeat' (first|(apply aF;first|(apply l7;rfl;exact hct;rfl;rfl)|(with_reducible apply a6 (d := 20)))|refine aE ?_|fail)
   refine b7 (fK ?_ (Le.frzD (d := 19) (i := 5) rfl rfl))
   repeat' (first|(apply aF;(apply bC;rfl;rfl;rfl;rfl;rfl;(rw [aI]; simp only [kH] <;> omega);(exact FX (by (omega)))))|refine aE ?_|fail)
   (apply c9 (i + 1,true);focus (refine Le.ren [(1,1),(2,2)] rfl (by decide) ?_ ?_ <;> repeat' (first|exact trivial|refine And.intro ⟨_,rfl,?_⟩ ?_|refine And.intro ⟨_,_,rfl,rfl,?_⟩ ?_|exact Or.inr rfl|refine Or.inl ⟨?_,(by first|rfl|exact cR _ _)⟩|rfl)))
   ·exact Or.inr (Ae hj rfl)
   ·exact ⟨by dsimp only;omega,by dsimp only;rw [decide_eq_true (by omega)]⟩
   ·dsimp only;omega
  ·rw [decide_eq_false hij] at hb; subst hb
   simp only [cond_false]
   repeat' (first|(apply aF;first|(apply l7;rfl;exact hct;rfl;rfl)|(with_reducible apply a6 (d := 20)))|refine aE ?_|(refine aL ?_ ?_ <;> intro hc hq <;> try (exfalso;omega))|fail)
   by_cases hie : i = j
   ·subst hie
    refine b7 ?_
    repeat' (first|(apply aF;(apply bC;rfl;rfl;rfl;rfl;rfl;(rw [aI]; simp only [kH] <;> omega);(exact rT (by (assumption)))))|refine aE ?_|fail)
    (apply c9 (i + 1,true);focus (refine Le.ren [(1,1),(2,5)] rfl (by decide) ?_ ?_ <;> repeat' (first|exact trivial|refine And.intro ⟨_,rfl,?_⟩ ?_|refine And.intro ⟨_,_,rfl,rfl,?_⟩ ?_|exact Or.inr rfl|refine Or.inl ⟨?_,(by first|rfl|exact cR _ _)⟩|rfl)))
    ·exact Or.inr (Ae hin rfl)
    ·exact ⟨by dsimp only;omega,by dsimp only;rw [decide_eq_true (by omega)]⟩
    ·dsimp only;omega
   ·refine b7 (fK ?_ (Le.frzD (d := 19) (i := 5) rfl rfl))
    repeat' (first|(apply aF;(apply bC;rfl;rfl;rfl;rfl;rfl;(rw [aI]; simp only [kH] <;> omega);(exact zX (by (assumption)))))|refine aE ?_|fail)
    (apply c9 (i + 1,false);focus (refine Le.ren [(1,1)] rfl (by decide) ?_ ?_ <;> repeat' (first|exact trivial|refine And.intro ⟨_,rfl,?_⟩ ?_|refine And.intro ⟨_,_,rfl,rfl,?_⟩ ?_|exact Or.inr rfl|refine Or.inl ⟨?_,(by first|rfl|exact cR _ _)⟩|rfl)))
    ·exact ⟨by dsimp only;omega,by dsimp only;rw [decide_eq_false (by omega)]⟩
    ·dsimp only;omega
 ·rw [decide_eq_true (by omega)] at hb; subst hb
  simp only [cond_true]
  repeat' (first|refine aE ?_|(refine aL ?_ ?_ <;> intro hc hq <;> try (exfalso;omega))|fail)
  (refine aC rfl ?_; refine aQ () trivial ?_ ⟨sE ?_,⟨sE ?_,trivial⟩⟩)
  ·rfl
  ·rfl
  ·rfl
theorem jY {m:List Cl}{x:Pt}{wr:Bool}{n:Nat}{x0 x1 x2:Operand}{i0:Nat}(ha0:ev (lk tsl) x0 = some (.own i0 0 n 4)) (ha1:ev (lk tsl) x1 = some (jR x)) (ha2:ev (lk tsl) x2 = some (bv wr)) (hH0:aO hsl i0 = some (aA a8 m)) (hmc:MC Tryz.prog 221 [.own 0 0 n 4,jR x,bv wr] [(0,some (aA a8 m))] 1 (fun _:Unit => True) (fun _ => iv (aS m x wr)) (fun _ => [(0,some (aA a8 m))])) (hM:Nat.ble (nidl + 0) cW = true) (hN:Nat.blt d N = true){md':Md}[hmd:MdA md (fH [x0,x1,x2] ++ [.inr i0]) (List.map Sum.inr (List.map Prod.fst ([(i0,some (aA a8 m))]:List (Nat × Option (List AV)))) ++ [.inl d]) md'] (kk:RW Tryz.prog N all Q md' rest ⟨(d,iv (aS m x wr)) :: tsl,gH hsl [(i0,some (aA a8 m))],nidl + 0,z0⟩):RW Tryz.prog N all Q md (⟨some d,.call ⟨.value (.func 221),#[x0,x1,x2],tys⟩,ty,pos,af,none⟩ :: rest) ⟨tsl,hsl,nidl,z0⟩:=by
 exact aZ (l := [x0,x1,x2]) [i0] 1 [(i0,some (aA a8 m))] hmc (avs := [.own i0 0 n 4,jR x,bv wr]) (by simp only [evL,ha0,ha1,ha2]) rfl hM hN (md' := md') (hmd := hmd) kk
theorem rD {m:List Cl}{j:Nat}{t:Int}{k n:Nat}{x0 x1 x2:Operand}{i0 i1:Nat}(ha0:ev (lk tsl) x0 = some (.own i0 0 n 4)) (ha1:ev (lk tsl) x1 = some (.agg [iv (j:Int),iv t])) (ha2:ev (lk tsl) x2 = some (bv true)) (hH0:aO hsl i0 = some (aA dK (cF m j (.own i1 0 m[j]!.stk.length 2)))) (hH1:aO hsl i1 = some (aA bT m[j]!.stk)) (hdd:Go.AL.distinct [i0,i1] = true) (hmc:MC Tryz.prog 221 [.own 0 0 n 4,.agg [iv (j:Int),iv t],bv true] [(0,some (aA dK (cF m j (.own 1 0 m[j]!.stk.length 2)))),(1,some (aA bT m[j]!.stk))] 2 (fun _:Unit => True) (fun _ => iv 0) (fun _ => [(0,some (aA dK (cF m j (.own 1 0 (k + 1) 2)))),(1,some (aA bT (m[j]!.stk.take (k + 1))))])) (hM:Nat.ble (nidl + 0) cW = true) (hN:Nat.blt d N = true){md':Md}[hmd:MdA md (fH [x0,x1,x2] ++ [.inr i0,.inr i1]) (List.map Sum.inr (List.map Prod.fst ([(i0,some (aA dK (cF m j (.own i1 0 (k + 1) 2)))),(i1,some (aA bT (m[j]!.stk.take (k + 1))))]:List (Nat × Option (List AV)))) ++ [.inl d]) md'] (kk:RW Tryz.prog N all Q md' rest ⟨(d,iv 0) :: tsl,gH hsl [(i0,some (aA dK (cF m j (.own i1 0 (k + 1) 2)))),(i1,some (aA bT (m[j]!.stk.take (k + 1))))],nidl + 0,z0⟩):RW Tryz.prog N all Q md (⟨some d,.call ⟨.value (.func 221),#[x0,x1,x2],tys⟩,ty,pos,af,none⟩ :: rest) ⟨tsl,hsl,nidl,z0⟩:=by
 exact aZ (l := [x0,x1,x2]) [i0,i1] 2 [(i0,some (aA dK (cF m j (.own i1 0 (k + 1) 2)))),(i1,some (aA bT (m[j]!.stk.take (k + 1))))] hmc (avs := [.own i0 0 n 4,.agg [iv (j : Int),iv t],bv true]) (by simp only [evL,ha0,ha1,ha2]) hdd hM hN (md' := md') (hmd := hmd) kk
theorem LdL.app {D:List Nat}{H:Nat → Option (List AV)}:∀ {a b c d:List AV},LdL D H a b → LdL D H c d → bF a = true → LdL D H (a ++ c) (a ++ d)
 | [],_,_,_,_,h,_ => h
 | x :: a, b, c, d, h1, h, hp => by
  simp only [bF,Bool.and_eq_true] at hp
  exact .cons (.pur hp.1) (LdL.app (a := a) (b := a) (.pur hp.2) h hp.2)
theorem Hl {D:List Nat}{H:Nat → Option (List AV)}{m:List Cl}{j i k:Nat}{r:List Tg}(hi:i ∈ D) (hH:H i = some (aA bT r)) (hk:k = r.length) (hj:j < m.length):LdL D H (aA dK (cF m j (.own i 0 k 2))) (aA a8 (m.set j { m[j]! with stk := r })):=by
 subst hk
 rw [← uQ,gC hj,gC hj]
 have p1 : bF (aA a8 (m.take j)) = true := (inferInstance : Pur (aA a8 _)).pf
 have p2 : bF [iv m[j]!.val,bv m[j]!.alive,iv m[j]!.next] = true := rfl
 exact LdL.app (.pur p1) (LdL.app (.pur p2) (.cons (.own hi hH (.pur (inferInstance : Pur (aA bT r)).pf)) (.pur (inferInstance : Pur (aA a8 _)).pf)) p2) p1
theorem zW {D:List Nat}{H:Nat → Option (List AV)}{m:List Cl}{j i:Nat}(hi:i ∈ D) (hH:H i = some (aA bT m[j]!.stk)) (hj:j < m.length):LdL D H (aA dK (cF m j (.own i 0 m[j]!.stk.length 2))) (aA a8 m):=by
 have h := Hl (m := m) (r := m[j]!.stk) hi hH rfl hj
 rwa [show m.set j { m[j]! with stk := m[j]!.stk } = m from lN m j] at h
theorem GO {m:List Cl}{x:Pt}{wr:Bool}(h:0 ≤ x.cell) (h2:x.cell < m.length) (h3:m[x.cell.toNat]!.alive = true) (h4:0 ≤ bH m[x.cell.toNat]!.stk x.tag) (hw:wr = true) (h5:m[x.cell.toNat]!.stk[(bH m[x.cell.toNat]!.stk x.tag).toNat]!.uq = false):aS m x wr = 3:=by
 unfold aS;rw [if_neg (by omega),if_neg (by rw [h3]; decide),if_neg (by omega),if_pos ⟨hw,h5⟩]
theorem lY (m:List Cl) (x:Pt) (wr:Bool) (n:Nat) (hm:OkM m) (hn:n = m.length) (hk:aS m x wr ≠ 0):MC Tryz.prog 221 [.own 0 0 n 4,jR x,bv wr] [(0,some (aA a8 m))] 1 (fun _:Unit => True) (fun _ => iv (aS m x wr)) (fun _ => [(0,some (aA a8 m))]):=by
 subst hn
 have hml := hm.l
 have hcv := fD m hm
 have hst : 0 ≤ x.cell → x.cell < m.length → m[x.cell.toNat]!.stk.length ≤ 200 := fun h1 h2 => (((b9 m).1 hm).2 x.cell.toNat (by omega)).l.2
 have hbd := cZ m[x.cell.toNat]!.stk x.tag
 have hidx := fun h => sC m[x.cell.toNat]!.stk x.cell x.tag h
 refine aT Tryz.func221 Tryz.ntmps221 ?_
 repeat' (first|(apply aF;first|(apply oQ (k := 218);(case ha => rfl);(case hl => (repeat' (first|exact mF|apply kS|exact mM rfl inferInstance)));(case h => exact hcv);(case hfr|hN => rfl);(case hmd => infer_instance))|((apply fO 4);(case hx|hH|hc|hN => rfl))|(apply aB (k := 228);rfl;(exact (hidx (by have := hst (by omega) (by omega);omega)));exact Pur.pf;rfl)|(with_reducible apply a6 (d := 75))|(apply aB (k := 55);rfl;(apply cH);(rfl);rfl))|refine aE ?_|(refine aL ?_ ?_ <;> intro hc hq <;> try (exfalso;omega))|(refine cS ?_ ?_ <;> intro hg hq <;> try (exfalso;omega))|fail)
 ·(refine aC rfl ?_; refine aQ () trivial ?_ ⟨sE ?_, trivial⟩)
  ·rw [wW (by omega)]; rfl
  ·rfl
 ·(refine aC rfl ?_; refine aQ () trivial ?_ ⟨sE ?_, trivial⟩)
  ·rw [Dt (by omega) (by omega) (by assumption)]; rfl
  ·rfl
 ·(refine aC rfl ?_; refine aQ () trivial ?_ ⟨sE ?_, trivial⟩)
  ·rw [DY (by omega) (by omega) (by assumption) (by assumption)]; rfl
  ·rfl
 ·(refine aC rfl ?_; refine aQ () trivial ?_ ⟨sE ?_, trivial⟩)
  ·rw [GO (by omega) (by omega) (by assumption) (by assumption) (by assumption) (by assumption)]; rfl
  ·rfl
 ·exfalso
  have hw : wr = true := by assumption
  have hu : m[x.cell.toNat]!.stk[(bH m[x.cell.toNat]!.stk x.tag).toNat]!.uq = true := by assumption
  subst hw
  refine hk ?_
  rw [sJ,if_pos (nL (by omega) (by omega) (by assumption) (by assumption)),if_neg (by rw [hu]; decide)]
 ·exfalso
  have hw : wr = false := by assumption
  subst hw
  exact hk (nL (by omega) (by omega) (by assumption) (by assumption))
theorem pJ (m:List Cl) (j:Nat) (t:Int) (k n:Nat) (hm:OkM m) (hn:n = m.length) (hj:j < m.length) (hk:bH m[j]!.stk t = (k:Int)) (hal:m[j]!.alive = true) (hu:m[j]!.stk[k]!.uq = true):MC Tryz.prog 221 [.own 0 0 n 4,.agg [iv (j:Int),iv t],bv true] [(0,some (aA dK (cF m j (.own 1 0 m[j]!.stk.length 2)))),(1,some (aA bT m[j]!.stk))] 2 (fun _:Unit => True) (fun _ => iv 0) (fun _ => [(0,some (aA dK (cF m j (.own 1 0 (k + 1) 2)))),(1,some (aA bT (m[j]!.stk.take (k + 1))))]):=by
 subst hn
 have hml := hm.l
 have hcv := fD m hm
 have hst : m[j]!.stk.length ≤ 200 := (((b9 m).1 hm).2 j hj).l.2
 have hbd := cZ m[j]!.stk t
 rw [hk] at hbd
 have hidx := sC m[j]!.stk (j : Int) t (by omega)
 rw [hk] at hidx
 have hog := fC (m := m) (j := j) (X := .own 1 0 m[j]!.stk.length 2) hj
 have hol := cD (m := m) (j := j) (X := .own 1 0 m[j]!.stk.length 2)
 refine aT Tryz.func221 Tryz.ntmps221 ?_
 repeat' (first|(apply aF;first|(apply lC (k := 218) (D := [0,1]) (h := hcv);rfl;exact .cons (.own (by simp) rfl (zW (by simp) rfl hj)) .nil;rfl;rfl)|(with_reducible apply a6 (d := 35))|(apply aB (k := 55);rfl;(apply cH);(rfl);rfl))|refine aE ?_|(refine aL ?_ ?_ <;> intro hc hq <;> try (exfalso;omega))|fail)
 all_goals (try (exfalso;omega))
 ·exfalso
  have h : (cF m j (.own 1 0 m[j]!.stk.length 2))[j]!.alive = false := by assumption
  rw [hog] at h;simp only [hal] at h;cases h
 refine b7 ?_
 rw [hog]
 dsimp only
 repeat' (first|(apply aF;first|((apply fO 4);(case hx|hH|hc|hN => rfl))|(apply lC (k := 228) (D := [1]) (h := hidx);rfl;exact .cons (.own (by simp) rfl (.pur (inferInstance : Pur (aA bT _)).pf)) (.cons (.pur rfl) .nil);rfl;rfl)|(with_reducible apply a6 (d := 68)))|refine aE ?_|fail)
 refine b7 ?_
 rw [hog]
 dsimp only
 repeat' (first|(apply aF;(with_reducible apply a6 (d := 81)))|refine aE ?_|(refine aL ?_ ?_ <;> intro hc hq <;> try (exfalso;omega))|fail)
 ·exfalso
  have h : m[j]!.stk[k]!.uq = false := by assumption
  rw [hu] at h;cases h
 refine b7 ?_
 rw [hog]
 dsimp only
 repeat' (first|(apply aF;first|(apply hD (d := 83) (l := 0) (h := k + 1);rfl;rfl;rfl;exact mK rfl (by omega);exact if_pos (by omega);rfl)|(apply bC;rfl;rfl;rfl;rfl;rfl;(rw [aI]; simp only [kH] <;> omega);(exact oV (by (assumption)))))|refine aE ?_|fail)
 refine bD (Le.cut (i := 1) ((k + 1) * 2) rfl) ?_
 (refine aC rfl ?_; refine aQ () trivial ?_ ⟨sE ?_,⟨sE ?_,trivial⟩⟩)
 ·rfl
 ·rfl
 ·rw [eE bT (e := 2)]
theorem Ax {xs:List Tg}{k n:Nat}{x0:Operand}{i0:Nat}(ha0:ev (lk tsl) x0 = some (.own i0 (0 + k * 2) n 2)) (hH0:aO hsl i0 = some (aA bT xs)) (hmc:MC Tryz.prog 227 [.own 0 (0 + k * 2) n 2] [(0,some (aA bT xs))] 1 (fun _:Unit => True) (fun _ => .own 2 0 n 2) (fun _ => [(0,some (aA bT xs)),(2,some (aA bT (xs.drop k)))])) (hM:Nat.ble (nidl + 2) cW = true) (hN:Nat.blt d N = true){md':Md}[hmd:MdA md (fH [x0] ++ [.inr i0]) (List.map Sum.inr (List.map Prod.fst ([(i0,some (aA bT xs)),((nidl + 1),some (aA bT (xs.drop k)))]:List (Nat × Option (List AV)))) ++ [.inl d]) md'] (kk:RW Tryz.prog N all Q md' rest ⟨(d,.own (nidl + 1) 0 n 2) :: tsl,gH hsl [(i0,some (aA bT xs)),((nidl + 1),some (aA bT (xs.drop k)))],nidl + 2,z0⟩):RW Tryz.prog N all Q md (⟨some d,.call ⟨.value (.func 227),#[x0],tys⟩,ty,pos,af,none⟩ :: rest) ⟨tsl,hsl,nidl,z0⟩:=by
 exact aZ (l := [x0]) [i0] 3 [(i0,some (aA bT xs)),((nidl + 1),some (aA bT (xs.drop k)))] hmc (avs := [.own i0 (0 + k * 2) n 2]) (by simp only [evL,ha0]) rfl hM hN (md' := md') (hmd := hmd) kk
theorem Cn (xs:List Tg) (k n:Nat) (hn:n = xs.length - k) (hl:xs.length ≤ 1048576):MC Tryz.prog 227 [.own 0 (0 + k * 2) n 2] [(0,some (aA bT xs))] 1 (fun _:Unit => True) (fun _ => .own 2 0 n 2) (fun _ => [(0,some (aA bT xs)),(2,some (aA bT (xs.drop k)))]):=by
 subst hn
 refine aT Tryz.func227 Tryz.ntmps227 ?_
 repeat' (first|(apply aF;first|(apply AZ;rfl;rfl;(intro b hb))|(apply dH;rfl;rfl;rfl;rfl;rfl;(decide);exact yX rfl rfl;omega;omega;(exact uB rfl);rfl;rfl))|refine aE ?_|(refine aL ?_ ?_ <;> intro hc hq <;> try (exfalso;omega))|fail)
 ·have h0 : xs.length - k = 0 := hb (by assumption)
  have h1 : xs.drop k = [] := List.drop_eq_nil_of_le (by omega)
  refine bD (Le.bump 1) ?_
  refine bD (Le.nilOwn (d := 2) 2 rfl (by decide)) ?_
  (refine aC rfl ?_; refine aQ () trivial ?_ ⟨sE ?_,⟨sE ?_,trivial⟩⟩)
  ·show AV.own 2 0 0 2 = _; rw [h0]
  ·rfl
  ·rw [h1]; rfl
 ·(refine aC rfl ?_; refine aQ () trivial ?_ ⟨sE ?_, ⟨sE ?_, trivial⟩⟩)
  ·show AV.own 2 0 (0 + (xs.length - k)) 2 = _
   rw [Nat.zero_add]
  ·rfl
  ·rfl
theorem qV {m:List Cl}{j:Nat}{t:Int}{r:List Tg}{n:Nat}{x0 x1 x2:Operand}{i0 i1:Nat}(ha0:ev (lk tsl) x0 = some (.own i0 0 n 4)) (ha1:ev (lk tsl) x1 = some (.agg [iv (j:Int),iv t])) (ha2:ev (lk tsl) x2 = some (bv false)) (hH0:aO hsl i0 = some (aA dK (cF m j (.own i1 0 m[j]!.stk.length 2)))) (hH1:aO hsl i1 = some (aA bT m[j]!.stk)) (hdd:Go.AL.distinct [i0,i1] = true) (hmc:MC Tryz.prog 221 [.own 0 0 n 4,.agg [iv (j:Int),iv t],bv false] [(0,some (aA dK (cF m j (.own 1 0 m[j]!.stk.length 2)))),(1,some (aA bT m[j]!.stk))] 2 (fun _:Unit => True) (fun _ => iv 0) (fun _ => [(0,some (aA dK (cF m j (.own 5 0 r.length 2)))),(5,some (aA bT r))])) (hM:Nat.ble (nidl + 4) cW = true) (hN:Nat.blt d N = true){md':Md}[hmd:MdA md (fH [x0,x1,x2] ++ [.inr i0,.inr i1]) (List.map Sum.inr (List.map Prod.fst ([(i0,some (aA dK (cF m j (.own (nidl + 3) 0 r.length 2)))),((nidl + 3),some (aA bT r)),(i1,none)]:List (Nat × Option (List AV)))) ++ [.inl d]) md'] (kk:RW Tryz.prog N all Q md' rest ⟨(d,iv 0) :: tsl,gH hsl [(i0,some (aA dK (cF m j (.own (nidl + 3) 0 r.length 2)))),((nidl + 3),some (aA bT r)),(i1,none)],nidl + 4,z0⟩):RW Tryz.prog N all Q md (⟨some d,.call ⟨.value (.func 221),#[x0,x1,x2],tys⟩,ty,pos,af,none⟩ :: rest) ⟨tsl,hsl,nidl,z0⟩:=by
 exact aZ (l := [x0,x1,x2]) [i0,i1] 6 [(i0,some (aA dK (cF m j (.own (nidl + 3) 0 r.length 2)))),((nidl + 3),some (aA bT r)),(i1,none)] hmc (avs := [.own i0 0 n 4,.agg [iv (j : Int),iv t],bv false]) (by simp only [evL,ha0,ha1,ha2]) hdd hM hN (md' := md') (hmd := hmd) kk
theorem tX (m:List Cl) (j:Nat) (t:Int) (r:List Tg) (k n:Nat) (hm:OkM m) (hn:n = m.length) (hj:j < m.length) (hk:bH m[j]!.stk t = (k:Int)) (hal:m[j]!.alive = true) (hr:r = dJ m[j]!.stk k false):MC Tryz.prog 221 [.own 0 0 n 4,.agg [iv (j:Int),iv t],bv false] [(0,some (aA dK (cF m j (.own 1 0 m[j]!.stk.length 2)))),(1,some (aA bT m[j]!.stk))] 2 (fun _:Unit => True) (fun _ => iv 0) (fun _ => [(0,some (aA dK (cF m j (.own 5 0 r.length 2)))),(5,some (aA bT r))]):=by
 subst hn
 have hml := hm.l
 have hcv := fD m hm
 have hst : m[j]!.stk.length ≤ 200 := (((b9 m).1 hm).2 j hj).l.2
 have hbd := cZ m[j]!.stk t
 rw [hk] at hbd
 have hidx := sC m[j]!.stk (j : Int) t (by omega)
 rw [hk] at hidx
 have hog := fC (m := m) (j := j) (X := .own 1 0 m[j]!.stk.length 2) hj
 have hol := cD (m := m) (j := j) (X := .own 1 0 m[j]!.stk.length 2)
 refine aT Tryz.func221 Tryz.ntmps221 ?_
 repeat' (first|(apply aF;first|(apply lC (k := 218) (D := [0,1]) (h := hcv);rfl;exact .cons (.own (by simp) rfl (zW (by simp) rfl hj)) .nil;rfl;rfl)|(with_reducible apply a6 (d := 35))|(apply aB (k := 55);rfl;(apply cH);(rfl);rfl))|refine aE ?_|(refine aL ?_ ?_ <;> intro hc hq <;> try (exfalso;omega))|fail)
 all_goals (try (exfalso;omega))
 ·exfalso
  have h : (cF m j (.own 1 0 m[j]!.stk.length 2))[j]!.alive = false := by assumption
  rw [hog] at h;simp only [hal] at h;cases h
 refine b7 ?_
 rw [hog]
 dsimp only
 repeat' (first|(apply aF;first|((apply fO 4);(case hx|hH|hc|hN => rfl))|(apply lC (k := 228) (D := [1]) (h := hidx);rfl;exact .cons (.own (by simp) rfl (.pur (inferInstance : Pur (aA bT _)).pf)) (.cons (.pur rfl) .nil);rfl;rfl)|(with_reducible apply a6 (d := 41)))|refine aE ?_|fail)
 refine b7 ?_
 rw [hog]
 dsimp only
 repeat' (first|(apply aF;first|(apply hD (d := 43) (l := k + 1) (h := m[j]!.stk.length);rfl;rfl;exact mK rfl (by omega);rfl;exact if_pos (by omega);rfl)|(apply Ax;rfl;rfl;exact Cn _ _ _ rfl (by omega);rfl;rfl)|(apply FD;rfl;rfl;rfl;exact HT _ _ (by rw [List.length_drop]) (by omega);rfl;rfl)|(with_reducible apply a6 (d := 51)))|refine aE ?_|fail)
 refine b7 ?_
 rw [hog]
 dsimp only
 have hfl : (aA bT m[j]!.stk).length = m[j]!.stk.length * 2 := aI bT _
 have hsl : (shr (List.drop (k + 1) m[j]!.stk)).length ≤ 200 := Nat.le_trans (List.length_filter_le _ _) (by rw [List.length_drop]; omega)
 repeat' (first|(apply aF;first|(apply hD (d := 53) (l := 0) (h := k + 1);rfl;rfl;rfl;exact mK rfl (by omega);exact if_pos (by omega);rfl)|(apply dH;rfl;rfl;rfl;rfl;rfl;(rw [hfl]; omega);exact yX (k := 0) rfl rfl;omega;omega;rfl;rfl;rfl)|(apply bC;rfl;rfl;rfl;rfl;rfl;(rw [aI]; simp only [kH] <;> omega);(exact oV (by (assumption)))))|refine aE ?_|fail)
 have hre : r = m[j]!.stk.take (k + 1) ++ shr (m[j]!.stk.drop (k + 1)) := by rw [hr]; rfl
 have hrl : r.length = k + 1 + (shr (List.drop (k + 1) m[j]!.stk)).length := by rw [hre,List.length_append,List.length_take]; omega
 (refine aC rfl ?_; refine aQ () trivial ?_ ⟨sE ?_,⟨sE ?_,trivial⟩⟩)
 ·rfl
 ·refine congrArg some ?_
  show aA dK (cF m j (AV.own 5 0 (k + 1 - 0 + (shr (List.drop (k + 1) m[j]!.stk)).length) 2)) = _
  rw [hrl]; rfl
 ·refine congrArg some ?_
  show (List.drop 0 (aA bT m[j]!.stk)).take ((k + 1) * 2) ++ aA bT (List.drop 0 (shr (List.drop (k + 1) m[j]!.stk))) = _
  rw [List.drop_zero,List.drop_zero,eE bT (e := 2),b6,← hre]
end Go.Proofs.YtgkalkgplcdnkaaGreat
