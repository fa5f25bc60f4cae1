/-
 A part of the proofs over this program: rules and contracts of its functions (the contracts).
-/
import Derived.Test.YtjnhlgpbojggnaaGreatDoorS3B03
set_option linter.unusedVariables false
set_option linter.unusedSimpArgs false
set_option maxHeartbeats 8000000
set_option maxRecDepth 4000
attribute [local irreducible] Go.AL.RW Go.AL.AW Go.AL.Stop
namespace Go.Proofs.YtjnhlgpbojggnaaGreatDoor
open Go.AL Go.RowKit
variable {N : Nat} {Q : Exit → AS → Prop} {all : Array Oper} {rest : List Oper} {tsl : List (Nat × AV)} {hsl : List (Nat × Option (List AV))} {nidl : Nat} {z0 : Lo} {md : Md} {d : Nat} {ty : TypeId} {pos : String} {af : Array Edge} {tys : Array TypeId}
instance (s : List (List Bool) × List Bool) : Pur (cFl s):=⟨by show ((sl cBB s.1).pur && ((sl cB s.2).pur && true)) = true;rw [pur_sl,pur_sl]; rfl⟩
def spV (ts : List Int) (pts : List Pnt) (Aa : List Nat) (i k : Nat) : List Iss := ((List.range k).filter (spU ts pts Aa i)).map (fun (v : Nat) => ⟨i,1,v⟩)
def spL (pts : List Pnt) (cf : List Bool) (i k : Nat) : List Iss := ((List.range k).filter (fun (l : Nat) => cf[l]!)).map (fun (l : Nat) => ⟨i,spK pts l,l⟩)
theorem spV_hit {ts:List Int}{pts:List Pnt}{Aa:List Nat}{i k:Nat}(h:spU ts pts Aa i k = true):spV ts pts Aa i (k + 1) = spV ts pts Aa i k ++ [⟨i,1,k⟩]:=by
 unfold spV;rw [filt_succ,if_pos h,List.map_append]; rfl
theorem spV_skip {ts:List Int}{pts:List Pnt}{Aa:List Nat}{i k:Nat}(h:spU ts pts Aa i k = false):spV ts pts Aa i (k + 1) = spV ts pts Aa i k:=by
 unfold spV;rw [filt_succ,if_neg (by rw [h]; decide),List.append_nil]
theorem spL_hit {pts:List Pnt}{cf:List Bool}{i k:Nat}(h:cf[k]! = true):spL pts cf i (k + 1) = spL pts cf i k ++ [⟨i,spK pts k,k⟩]:=by
 unfold spL;rw [filt_succ,if_pos h,List.map_append]; rfl
theorem spL_skip {pts:List Pnt}{cf:List Bool}{i k:Nat}(h:cf[k]! = false):spL pts cf i (k + 1) = spL pts cf i k:=by
 unfold spL;rw [filt_succ,if_neg (by rw [h]; decide),List.append_nil]
theorem l5Check_c (p:Prg) (f:Flows p.types (ptsF p)) (hs:cntL p.body ≤ 1048576) (w:WG p.types (ptsF p)) (hr:Rch (ptsF p)):PC Tryz.prog 112 [aPrg p,sl cBB (rowsB p.types.length (ptsF p).length f.Al)] (fun r => r = sl cIss f.iss):=by
 have hpl := w.pl
 have hp0 := w.p0
 have htl := w.tl
 have hfa := l3Forward_c p true f.Aa hs w hr (by unfold GoodF2;exact f.ga)
 have hfm := l3Forward_c p false f.Am hs w hr (by unfold GoodF2;exact f.gm)
 have hfl := l4Flow_c p f.Af f.Ap hs w f.gf f.gp
 have hra := rowsB_len p.types.length (ptsF p).length f.Aa
 have hrm := rowsB_len p.types.length (ptsF p).length f.Am
 have hrl := rowsB_len p.types.length (ptsF p).length f.Al
 have hfll : ((List.range (ptsF p).length).map (flB p.types.length (ptsF p).length f.Af f.Ap)).length = (ptsF p).length := by simp
 refine pc_start Tryz.func112 Tryz.ntmps112 ?_
 repeat' (first|(apply id_rw;first|(apply rx_callE (k := 62);rfl;exact l2Points_c p hs;exact Pur.pf;rfl)|(apply rx_callE (k := 172) (d := 20);rfl;exact hfa;exact Pur.pf;rfl)|(apply rx_callE (k := 172) (d := 22);rfl;exact hfm;exact Pur.pf;rfl)|(apply rx_callE (k := 173);rfl;exact hfl;exact Pur.pf;rfl))|refine stpb ?_|fail)
 refine aw_loopA (σ := Nat × List Iss × Nat) [1,2,6,7,8,9] [0] (fun s => [(10,iv (s.1 : Int)),(5,.own 1 0 s.2.2 3)]) (fun s => [(1,some (flat cIss s.2.1))]) (fun s => s.1 ≤ (ptsF p).length ∧ s.2.1 = issF p.types (ptsF p) f.Aa f.Am f.Al f.Af f.Ap s.1 ∧ s.2.2 = s.2.1.length ∧ s.2.2 ≤ 67 * s.1) (fun s => (ptsF p).length - s.1) (0,[],0) ⟨Nat.zero_le _,rfl,rfl,Nat.le_refl _⟩ ?_
 rintro ⟨i,L,m⟩ ⟨hi,hL,hm,hmb⟩
 dsimp only at hi hL hm hmb
 try dsimp only
 by_cases hin : i < (ptsF p).length
 ·repeat' (first | refine stpb ?_ | (refine stp2 ?_ ?_ <;> intro hc hq <;> try (exfalso; omega))|fail)
  refine aw_loopA (σ := Nat × List Iss × Nat) [1,2,6,7,8,9,10] [0] (fun s => [(11,iv (s.1 : Int)),(5,.own 1 0 s.2.2 3)]) (fun s => [(1,some (flat cIss s.2.1))]) (fun s => s.1 ≤ p.types.length ∧ s.2.1 = L ++ spV p.types (ptsF p) f.Aa i s.1 ∧ s.2.2 = s.2.1.length ∧ s.2.2 ≤ 67 * i + s.1) (fun s => p.types.length - s.1) (0,L,m) ⟨Nat.zero_le _,(List.append_nil L).symm,hm,hmb⟩ ?_
  rintro ⟨v,L2,m2⟩ ⟨hv,hL2,hm2,hmb2⟩
  dsimp only at hv hL2 hm2 hmb2
  try dsimp only
  by_cases hvn : v < p.types.length
  ·have hga := rowsB_get p.types.length (ptsF p).length f.Aa i v hin hvn
   have hgl : (rowsB p.types.length (ptsF p).length f.Aa)[i]!.length = p.types.length := by rw [rowsB_row _ _ _ _ hin]; simp
   repeat' (first|(apply id_rw;(apply rx_callE (k := 174);rfl;(apply l3Use_c <;> (omega));exact Pur.pf;rfl))|refine stpb ?_|(refine stp2 ?_ ?_ <;> intro hc hq <;> try (exfalso;omega))|(refine stp3 ?_ ?_ <;> intro hg hq <;> try (exfalso;omega))|refine stpd ?_|fail)
   ·(refine ex3 (v + 1, L2 ++ [⟨i, 1, v⟩], m2 + 1) (Le.renA [(0, 0), (1, 3)]) ?_ ?_)
    ·have hu : spU p.types (ptsF p) f.Aa i v = true := by
      unfold spU;rw [← hga,decide_eq_false (by assumption),(by assumption : (rowsB p.types.length (ptsF p).length f.Aa)[i]![v]! = false)]; rfl
     exact ⟨(by show v + 1 ≤ p.types.length;omega),(by show L2 ++ [⟨i,1,v⟩] = _; rw [hL2,List.append_assoc,← spV_hit hu]),(by show m2 + 1 = (L2 ++ [_]).length;rw [List.length_append,List.length_singleton,hm2]),(by show m2 + 1 ≤ 67 * i + (v + 1);omega)⟩
    ·show p.types.length - (v + 1) < p.types.length - v;omega
   ·(refine ex3 (v + 1, L2, m2) (Le.renA [(0, 0), (1, 1)]) ?_ ?_)
    ·have hu : spU p.types (ptsF p) f.Aa i v = false := by
      unfold spU;rw [← hga,(by assumption : (rowsB p.types.length (ptsF p).length f.Aa)[i]![v]! = true)]; simp
     exact ⟨(by show v + 1 ≤ p.types.length;omega),(by show L2 = _; rw [spV_skip hu]; exact hL2),hm2,(by show m2 ≤ 67 * i + (v + 1);omega)⟩
    ·show p.types.length - (v + 1) < p.types.length - v;omega
   ·(refine ex3 (v + 1, L2, m2) (Le.renA [(0, 0), (1, 1)]) ?_ ?_)
    ·have hu : spU p.types (ptsF p) f.Aa i v = false := by
      unfold spU;rw [decide_eq_true (by assumption)]; rfl
     exact ⟨(by show v + 1 ≤ p.types.length;omega),(by show L2 = _; rw [spV_skip hu]; exact hL2),hm2,(by show m2 ≤ 67 * i + (v + 1);omega)⟩
    ·show p.types.length - (v + 1) < p.types.length - v;omega
  ·have hvN : v = p.types.length := by omega
   have hset := w.set i hin
   have hy := w.y i hin
   have hfi : ((List.range (ptsF p).length).map (flB p.types.length (ptsF p).length f.Af f.Ap))[i]! = flB p.types.length (ptsF p).length f.Af f.Ap i := mapR_get _ _ _ hin
   have hgm : (rowsB p.types.length (ptsF p).length f.Am)[i]!.length = p.types.length := by rw [rowsB_row _ _ _ _ hin]; simp
   have hgl : (rowsB p.types.length (ptsF p).length f.Al)[i]!.length = p.types.length := by rw [rowsB_row _ _ _ _ hin]; simp
   have hf2 : (flB p.types.length (ptsF p).length f.Af f.Ap i).2.length = (ptsF p).length := by simp [flB]
   have hf1 : (flB p.types.length (ptsF p).length f.Af f.Ap i).1.length = p.types.length := by simp [flB]
   have hf3 : ∀ v, v < p.types.length → (flB p.types.length (ptsF p).length f.Af f.Ap i).1[v]!.length = (flB p.types.length (ptsF p).length f.Af f.Ap i).2.length := fun v hv => by
    rw [hf2]; unfold flB;dsimp only;rw [mapR_get _ _ _ hv]; simp
   have hacc := l4Accesses_c p.types (ptsF p)[i]! (rowsB p.types.length (ptsF p).length f.Am)[i]! htl hgm hset.1 hy
   have hlv := l4Live_c p.types (ptsF p)[i]! ((List.range (ptsF p).length).map (flB p.types.length (ptsF p).length f.Af f.Ap))[i]!.1 ((List.range (ptsF p).length).map (flB p.types.length (ptsF p).length f.Af f.Ap))[i]!.2 (rowsB p.types.length (ptsF p).length f.Al)[i]! htl (by rw [hfi,hf2]; exact hpl) hgl (by rw [hfi]; exact hf1) (by rw [hfi]; exact hf3)
   have hlvl : (lvB p.types (ptsF p)[i]! ((List.range (ptsF p).length).map (flB p.types.length (ptsF p).length f.Af f.Ap))[i]!.1 (rowsB p.types.length (ptsF p).length f.Al)[i]! ((List.range (ptsF p).length).map (flB p.types.length (ptsF p).length f.Af f.Ap))[i]!.2.length).length = (ptsF p).length := by unfold lvB;rw [List.length_map,List.length_range,hfi,hf2]
   have hcn := l4Conflicts_c (ptsF p) (accF p.types (ptsF p)[i]! (rowsB p.types.length (ptsF p).length f.Am)[i]![(setAt (ptsF p)[i]!).toNat]!) ((List.range (ptsF p).length).map (flB p.types.length (ptsF p).length f.Af f.Ap))[i]!.1 ((List.range (ptsF p).length).map (flB p.types.length (ptsF p).length f.Af f.Ap))[i]!.2 (lvB p.types (ptsF p)[i]! ((List.range (ptsF p).length).map (flB p.types.length (ptsF p).length f.Af f.Ap))[i]!.1 (rowsB p.types.length (ptsF p).length f.Al)[i]! ((List.range (ptsF p).length).map (flB p.types.length (ptsF p).length f.Af f.Ap))[i]!.2.length) hpl (by have := accF_len p.types (ptsF p)[i]! (rowsB p.types.length (ptsF p).length f.Am)[i]![(setAt (ptsF p)[i]!).toNat]!; omega) (by rw [hfi]; exact hf2) hlvl
   have hcf : cfB (ptsF p) (accF p.types (ptsF p)[i]! (rowsB p.types.length (ptsF p).length f.Am)[i]![(setAt (ptsF p)[i]!).toNat]!) ((List.range (ptsF p).length).map (flB p.types.length (ptsF p).length f.Af f.Ap))[i]!.2 (lvB p.types (ptsF p)[i]! ((List.range (ptsF p).length).map (flB p.types.length (ptsF p).length f.Af f.Ap))[i]!.1 (rowsB p.types.length (ptsF p).length f.Al)[i]! ((List.range (ptsF p).length).map (flB p.types.length (ptsF p).length f.Af f.Ap))[i]!.2.length) = spC p.types (ptsF p) f.Am f.Al f.Af f.Ap i := by
    rw [hfi,hf2]; rfl
   have hcl : (spC p.types (ptsF p) f.Am f.Al f.Af f.Ap i).length = (ptsF p).length := by unfold spC;rw [cfB_len]
   repeat' (first|(apply id_rw;first|(apply rx_callE (k := 175);rfl;exact hacc;exact Pur.pf;rfl)|(apply rx_callE (k := 177);rfl;exact hlv;exact Pur.pf;rfl)|(apply rx_callE (k := 176);rfl;exact hcn;exact Pur.pf;rfl)|(with_reducible apply rw_stop (d := 14)))|refine stpb ?_|(refine stp2 ?_ ?_ <;> intro hc hq <;> try (exfalso;omega))|refine stpd ?_|fail)
   refine rw_go ?_
   rw [hcf]
   repeat' (first|refine stpb ?_|fail)
   refine aw_loopA (σ := Nat × List Iss × Nat) [1,2,6,7,8,9,10,13] [0] (fun s => [(14,iv (s.1 : Int)),(5,.own 1 0 s.2.2 3)]) (fun s => [(1,some (flat cIss s.2.1))]) (fun s => s.1 ≤ (ptsF p).length ∧ s.2.1 = L2 ++ spL (ptsF p) (spC p.types (ptsF p) f.Am f.Al f.Af f.Ap i) i s.1 ∧ s.2.2 = s.2.1.length ∧ s.2.2 ≤ 67 * i + 6 + s.1) (fun s => (ptsF p).length - s.1) (0,L2,m2) ⟨Nat.zero_le _,(List.append_nil L2).symm,hm2,by show m2 ≤ 67 * i + 6 + 0;omega⟩ ?_
   rintro ⟨l,L3,m3⟩ ⟨hl,hL3,hm3,hmb3⟩
   dsimp only at hl hL3 hm3 hmb3
   try dsimp only
   by_cases hln : l < (ptsF p).length
   ·repeat' (first | refine stpb ?_ | (refine stp2 ?_ ?_ <;> intro hc hq <;> try (exfalso; omega))|fail)
    ·(refine ex3 (l + 1, L3, m3) (Le.renA [(0, 0), (1, 1)]) ?_ ?_)
     ·exact ⟨(by show l + 1 ≤ (ptsF p).length;omega),(by show L3 = _; rw [spL_skip (by assumption)]; exact hL3),hm3,(by show m3 ≤ 67 * i + 6 + (l + 1);omega)⟩
     ·show (ptsF p).length - (l + 1) < (ptsF p).length - l;omega
    ·(refine ex3 (l + 1, L3 ++ [⟨i, 3, l⟩], m3 + 1) (Le.renA [(0, 0), (1, 3)]) ?_ ?_)
     ·have hk : spK (ptsF p) l = 3 := by unfold spK; rw [if_pos (by assumption)]
      exact ⟨(by show l + 1 ≤ (ptsF p).length;omega),(by show L3 ++ [⟨i,3,l⟩] = _; rw [hL3,List.append_assoc,← hk,← spL_hit (by assumption)]),(by show m3 + 1 = (L3 ++ [_]).length;rw [List.length_append,List.length_singleton,hm3]),(by show m3 + 1 ≤ 67 * i + 6 + (l + 1);omega)⟩
     ·show (ptsF p).length - (l + 1) < (ptsF p).length - l;omega
    ·(refine ex3 (l + 1, L3 ++ [⟨i, 2, l⟩], m3 + 1) (Le.renA [(0, 0), (1, 3)]) ?_ ?_)
     ·have hk : spK (ptsF p) l = 2 := by unfold spK; rw [if_neg (by assumption)]
      exact ⟨(by show l + 1 ≤ (ptsF p).length;omega),(by show L3 ++ [⟨i,2,l⟩] = _; rw [hL3,List.append_assoc,← hk,← spL_hit (by assumption)]),(by show m3 + 1 = (L3 ++ [_]).length;rw [List.length_append,List.length_singleton,hm3]),(by show m3 + 1 ≤ 67 * i + 6 + (l + 1);omega)⟩
     ·show (ptsF p).length - (l + 1) < (ptsF p).length - l;omega
   ·repeat' (first | refine stpb ?_ | (refine stp2 ?_ ?_ <;> intro hc hq <;> try (exfalso; omega))|fail)
    (refine ex3 (i + 1,L3,m3) (Le.renA [(0,0),(1,1)]) ?_ ?_)
    ·refine ⟨(by show i + 1 ≤ (ptsF p).length; omega), ?_, hm3, (by show m3 ≤ 67 * (i + 1); omega)⟩
     show L3 = issF p.types (ptsF p) f.Aa f.Am f.Al f.Af f.Ap (i + 1)
     rw [issF_succ,← spP_eq w f hin,hL3,hL2,hL,hvN,show l = (ptsF p).length by omega,List.append_assoc]
     rfl
    ·show (ptsF p).length - (i + 1) < (ptsF p).length - i;omega
 ·repeat' (first | refine stpb ?_ | (refine stp2 ?_ ?_ <;> intro hc hq <;> try (exfalso; omega))|fail)
  have hiN : i = (ptsF p).length := by omega
  refine rq_le (Le.frzD (d := 4) (i := 1) rfl rfl) ?_
  refine rq_ret rfl ⟨?_,(by (exact pur_sl _ _))⟩
  simp only [oneOf]
  rw [hm,hL,hiN]; rfl
theorem CheckS_c (p:Prg) (f:Flows p.types (ptsF p)) (hl:p.types.length ≤ 1048576) (hs:cntL p.body ≤ 1048576):PC Tryz.prog 68 [aPrg p] (fun r => r = sl cIss (chkF p f)):=by
 unfold chkF
 cases hv : validF p
 ·have hval := validS_c p hl (by omega)
  rw [hv] at hval
  refine pc_start Tryz.func68 Tryz.ntmps68 ?_
  repeat' (first|(apply id_rw;first|(apply rx_callE (k := 50);rfl;exact hval;exact Pur.pf;rfl)|(apply rx_buildSliceI (t := _);rfl;rfl;rfl;(rfl);rfl;rfl))|refine stpb ?_|fail)
  exact rq_ret rfl ⟨rfl,rfl⟩
 ·have w := WG.of_valid hv
  have hr := Rch.of p
  have hval := validS_c p hl (by omega)
  rw [hv] at hval
  have hlv := l3Live_c p f.Al hs w f.gl
  have hck := l5Check_c p f hs w hr
  refine pc_start Tryz.func68 Tryz.ntmps68 ?_
  repeat' (first|(apply id_rw;first|(apply rx_callE (k := 50);rfl;exact hval;exact Pur.pf;rfl)|(apply rx_callE (k := 113);rfl;exact hlv;exact Pur.pf;rfl)|(apply rx_callE (k := 112);rfl;exact hck;exact Pur.pf;rfl))|refine stpb ?_|refine stpd ?_|fail)
  exact rq_ret rfl ⟨rfl,(by (exact pur_sl _ _))⟩
abbrev cRd (bs : List UInt8) (p : Nat) : List AV := [sl cU bs,iv (p : Int)]
def pickX (bs : List UInt8) (q : Int) : Int := ((bs[(q % (bs.length : Int)).toNat]!).toNat : Int) * 131 + ((bs[((q * 7 + 3) % (bs.length : Int)).toNat]!).toNat : Int) * 1117 + q * 29 + q / (bs.length : Int) * 53
def pickF (bs : List UInt8) (p : Nat) (n : Int) : Int :=
 if n < 1 then 0 else if (bs.length : Int) = 0 then 0 else
 if (p : Int) + 1 - 1 < (bs.length : Int) then ((bs[((p : Int) + 1 - 1).toNat]!).toNat : Int) % n
 else (((pickX bs ((p : Int) + 1 - 1)).toNat ^^^ (pickX bs ((p : Int) + 1 - 1) / 64).toNat : Nat) : Int) % n
theorem pickF_bd (bs:List UInt8) (p:Nat) (n:Int):0 ≤ pickF bs p n ∧ (pickF bs p n < n ∨ n < 1 ∧ pickF bs p n = 0):=by
 unfold pickF
 split
 ·omega
 ·split
  ·omega
  ·split
   ·exact ⟨Int.emod_nonneg _ (by omega),.inl (Int.emod_lt_of_pos _ (by omega))⟩
   ·exact ⟨Int.emod_nonneg _ (by omega),.inl (Int.emod_lt_of_pos _ (by omega))⟩
def numF (bs : List UInt8) (p : Nat) (xs : List Int) : Int := xs[(pickF bs p (xs.length : Int)).toNat]!
class NumL (cs : List AV) (xs : outParam (List Int)) : Prop where h : cs = flat cI xs
instance NumL.nil : NumL [] []:=⟨rfl⟩
instance NumL.cons {n : Int} {cs : List AV} {xs : List Int} [h : NumL cs xs] : NumL (.v (.int .i64 n) :: cs) (n :: xs):=⟨by rw [h.h]; rfl⟩
theorem rx_pick {bs:List UInt8}{p:Nat}{n:Int}{x0 x1:Operand}{i0:Nat}(ha0:ev (lk tsl) x0 = some (.optr i0 0)) (ha1:ev (lk tsl) x1 = some (iv n)) (hH0:lkH hsl i0 = some (cRd bs p)) (hmc:MC Tryz.prog 33 [.optr 0 0,iv n] [(0,some (cRd bs p))] 1 (fun _:Unit => True) (fun _ => iv (pickF bs p n)) (fun _ => [(0,some (cRd bs (p + 1)))])) (hM:Nat.ble (nidl + 0) big = true) (hN:Nat.blt d N = true){md':Md}[hmd:MdA md (rOs [x0,x1] ++ [.inr i0]) (List.map Sum.inr (List.map Prod.fst ([(i0,some (cRd bs (p + 1)))]:List (Nat × Option (List AV)))) ++ [.inl d]) md'] (kk:RW Tryz.prog N all Q md' rest ⟨(d,iv (pickF bs p n)) :: tsl,wrH hsl [(i0,some (cRd bs (p + 1)))],nidl + 0,z0⟩):RW Tryz.prog N all Q md (⟨some d,.call ⟨.value (.func 33),#[x0,x1],tys⟩,ty,pos,af,none⟩ :: rest) ⟨tsl,hsl,nidl,z0⟩:=by
 exact rx_mcallA (l := [x0,x1]) [i0] 1 [(i0,some (cRd bs (p + 1)))] hmc (avs := [.optr i0 0,iv n]) (by simp only [evL,ha0,ha1]) rfl hM hN (md' := md') (hmd := hmd) kk
theorem rx_num0 {bs:List UInt8}{p:Nat}{xs:List Int}{x0 x1:Operand}{i0:Nat}(ha0:ev (lk tsl) x0 = some (.optr i0 0)) (ha1:ev (lk tsl) x1 = some (sl cI xs)) (hH0:lkH hsl i0 = some (cRd bs p)) (hmc:MC Tryz.prog 34 [.optr 0 0,sl cI xs] [(0,some (cRd bs p))] 1 (fun _:Unit => True) (fun _ => iv (numF bs p xs)) (fun _ => [(0,some (cRd bs (p + 1)))])) (hM:Nat.ble (nidl + 0) big = true) (hN:Nat.blt d N = true){md':Md}[hmd:MdA md (rOs [x0,x1] ++ [.inr i0]) (List.map Sum.inr (List.map Prod.fst ([(i0,some (cRd bs (p + 1)))]:List (Nat × Option (List AV)))) ++ [.inl d]) md'] (kk:RW Tryz.prog N all Q md' rest ⟨(d,iv (numF bs p xs)) :: tsl,wrH hsl [(i0,some (cRd bs (p + 1)))],nidl + 0,z0⟩):RW Tryz.prog N all Q md (⟨some d,.call ⟨.value (.func 34),#[x0,x1],tys⟩,ty,pos,af,none⟩ :: rest) ⟨tsl,hsl,nidl,z0⟩:=by
 exact rx_mcallA (l := [x0,x1]) [i0] 1 [(i0,some (cRd bs (p + 1)))] hmc (avs := [.optr i0 0,sl cI xs]) (by simp only [evL,ha0,ha1]) rfl hM hN (md' := md') (hmd := hmd) kk
theorem rx_num0O {bs:List UInt8}{p:Nat}{xs:List Int}{x0 x1:Operand}{i0 i1:Nat}(ha0:ev (lk tsl) x0 = some (.optr i0 0)) (ha1:ev (lk tsl) x1 = some (.own i1 0 xs.length 1)) (hH0:lkH hsl i0 = some (cRd bs p)) (hH1:lkH hsl i1 = some (flat cI xs)) (hdd:Go.AL.distinct [i0,i1] = true) (hmc:MC Tryz.prog 34 [.optr 0 0,.own 1 0 xs.length 1] [(0,some (cRd bs p)),(1,some (flat cI xs))] 2 (fun _:Unit => True) (fun _ => iv (numF bs p xs)) (fun _ => [(0,some (cRd bs (p + 1)))])) (hM:Nat.ble (nidl + 0) big = true) (hN:Nat.blt d N = true){md':Md}[hmd:MdA md (rOs [x0,x1] ++ [.inr i0,.inr i1]) (List.map Sum.inr (List.map Prod.fst ([(i0,some (cRd bs (p + 1))),(i1,none)]:List (Nat × Option (List AV)))) ++ [.inl d]) md'] (kk:RW Tryz.prog N all Q md' rest ⟨(d,iv (numF bs p xs)) :: tsl,wrH hsl [(i0,some (cRd bs (p + 1))),(i1,none)],nidl + 0,z0⟩):RW Tryz.prog N all Q md (⟨some d,.call ⟨.value (.func 34),#[x0,x1],tys⟩,ty,pos,af,none⟩ :: rest) ⟨tsl,hsl,nidl,z0⟩:=by
 exact rx_mcallA (l := [x0,x1]) [i0,i1] 2 [(i0,some (cRd bs (p + 1))),(i1,none)] hmc (avs := [.optr i0 0,.own i1 0 xs.length 1]) (by simp only [evL,ha0,ha1]) hdd hM hN (md' := md') (hmd := hmd) kk
theorem pick_c (bs:List UInt8) (p:Nat) (n:Int) (hb:bs.length ≤ 2000) (hp:p ≤ 1048576) (hn0:0 ≤ n) (hn:n ≤ 1048576):MC Tryz.prog 33 [.optr 0 0,iv n] [(0,some (cRd bs p))] 1 (fun _:Unit => True) (fun _ => iv (pickF bs p n)) (fun _ => [(0,some (cRd bs (p + 1)))]):=by
 have hdiv : 0 ≤ ((p : Int) + 1 - 1) / (bs.length : Int) ∧ ((p : Int) + 1 - 1) / (bs.length : Int) ≤ p + 1 - 1 := ⟨Int.ediv_nonneg (by omega) (by omega),Int.ediv_le_self _ (by omega)⟩
 refine mc_start Tryz.func33 Tryz.ntmps33 ?_
 repeat' (first|(apply id_rw;(apply rx_convB;rfl;rfl;(case' kk => intro hbd)))|refine stpb ?_|(refine stp2 ?_ ?_ <;> intro hc hq <;> try (exfalso;omega))|(refine stp3 ?_ ?_ <;> intro hg hq <;> try (exfalso;omega))|refine stpd ?_|fail)
 all_goals (refine rq_ret rfl ?_; refine mc_ret () trivial ?_ ⟨sE ?_,trivial⟩)
 all_goals first|rfl|skip
 all_goals simp only [oneOf,AV.v.injEq,Value.int.injEq,true_and,pickF]
 ·rw [if_neg (by omega),if_pos (by omega)]
 ·rw [if_neg (by omega),if_neg (by omega),if_pos (by omega)]
 ·rw [if_neg (by omega),if_neg (by omega),if_neg (by omega)]; rfl
 ·rw [if_pos (by omega)]
theorem num0_c (bs:List UInt8) (p:Nat) (xs:List Int) (hb:bs.length ≤ 2000) (hp:p ≤ 1048576) (h0:0 < xs.length) (hn:xs.length ≤ 1048576):MC Tryz.prog 34 [.optr 0 0,sl cI xs] [(0,some (cRd bs p))] 1 (fun _:Unit => True) (fun _ => iv (numF bs p xs)) (fun _ => [(0,some (cRd bs (p + 1)))]):=by
 have hpf := pickF_bd bs p xs.length
 refine mc_start Tryz.func34 Tryz.ntmps34 ?_
 repeat' (first|(apply id_rw;(apply rx_pick;rfl;rfl;(rfl);(apply pick_c <;> (first|assumption|omega));rfl;rfl))|refine stpb ?_|fail)
 (refine rq_ret rfl ?_; refine mc_ret () trivial ?_ ⟨sE ?_,trivial⟩)
 ·rfl
 ·rfl
theorem rx_num {Q:Exit → AS → Prop}{all:Array Oper}{rest:List Oper}{N:Nat}{tsl:List (Nat × AV)}{hsl:List (Nat × Option (List AV))}{nidl:Nat}{z0:Lo}{md:Md}{d:Nat}{ty:TypeId}{pos:String}{af:Array Edge}{tys:Array TypeId}
  {bs : List UInt8} {p m : Nat} {cs : List AV} {xs : List Int} {x0 x1 : Operand} {i0 : Nat} (ha0 : ev (lk tsl) x0 = some (.optr i0 0)) (ha1 : ev (lk tsl) x1 = some (.imm m cs)) (hcs : NumL cs xs) (hH0 : lkH hsl i0 = some (cRd bs p))
  (hm : m = xs.length) (hb : bs.length ≤ 2000) (hp : p ≤ 1048576) (h0 : 0 < xs.length) (hn : xs.length ≤ 1048576) (hM : Nat.ble (nidl + 0) big = true) (hN : Nat.blt d N = true) {md' : Md}
  [hmd : MdA md (rOs [x0,x1] ++ [.inr i0]) [.inr i0,.inl d] md']
  (kk : RW Tryz.prog N all Q md' rest ⟨(d,iv (numF bs p xs)) :: tsl,(i0,some (cRd bs (p + 1))) :: hsl,nidl + 0,z0⟩) : RW Tryz.prog N all Q md (⟨some d,.call ⟨.value (.func 34),#[x0,x1],tys⟩,ty,pos,af,none⟩ :: rest) ⟨tsl,hsl,nidl,z0⟩ := by
 have h := hcs.h
 subst hm h
 exact rx_num0 ha0 ha1 hH0 (num0_c bs p xs hb hp h0 hn) hM hN (hmd := hmd) kk
theorem num0O_c (bs:List UInt8) (p:Nat) (xs:List Int) (hb:bs.length ≤ 2000) (hp:p ≤ 1048576) (h0:0 < xs.length) (hn:xs.length ≤ 1048576):MC Tryz.prog 34 [.optr 0 0,.own 1 0 xs.length 1] [(0,some (cRd bs p)),(1,some (flat cI xs))] 2 (fun _:Unit => True) (fun _ => iv (numF bs p xs)) (fun _ => [(0,some (cRd bs (p + 1)))]):=by
 have hpf := pickF_bd bs p xs.length
 refine mc_start Tryz.func34 Tryz.ntmps34 ?_
 repeat' (first|(apply id_rw;(apply rx_pick;rfl;rfl;(rfl);(apply pick_c <;> (first|assumption|omega));rfl;rfl))|refine stpb ?_|fail)
 (refine rq_ret rfl ?_; refine mc_ret () trivial ?_ ⟨sE ?_,trivial⟩)
 ·rfl
 ·rfl
theorem rx_numO {Q:Exit → AS → Prop}{all:Array Oper}{rest:List Oper}{N:Nat}{tsl:List (Nat × AV)}{hsl:List (Nat × Option (List AV))}{nidl:Nat}{z0:Lo}{md:Md}{d:Nat}{ty:TypeId}{pos:String}{af:Array Edge}{tys:Array TypeId}
  {bs : List UInt8} {p m : Nat} {cs : List AV} {xs : List Int} {x0 x1 : Operand} {i0 i1 : Nat} (ha0 : ev (lk tsl) x0 = some (.optr i0 0)) (ha1 : ev (lk tsl) x1 = some (.own i1 0 m 1)) (hH0 : lkH hsl i0 = some (cRd bs p)) (hH1 : lkH hsl i1 = some cs) (hcs : NumL cs xs)
  (hdd : Go.AL.distinct [i0,i1] = true) (hm : m = xs.length) (hb : bs.length ≤ 2000) (hp : p ≤ 1048576) (h0 : 0 < xs.length) (hn : xs.length ≤ 1048576) (hM : Nat.ble (nidl + 0) big = true) (hN : Nat.blt d N = true) {md' : Md}
  [hmd : MdA md (rOs [x0,x1] ++ [.inr i0,.inr i1]) [.inr i0,.inr i1,.inl d] md']
  (kk : RW Tryz.prog N all Q md' rest ⟨(d,iv (numF bs p xs)) :: tsl,wrH hsl [(i0,some (cRd bs (p + 1))),(i1,none)],nidl + 0,z0⟩) : RW Tryz.prog N all Q md (⟨some d,.call ⟨.value (.func 34),#[x0,x1],tys⟩,ty,pos,af,none⟩ :: rest) ⟨tsl,hsl,nidl,z0⟩ := by
 have h := hcs.h
 subst hm h
 exact rx_num0O ha0 ha1 hH0 hH1 hdd (num0O_c bs p xs hb hp h0 hn) hM hN (hmd := hmd) kk
theorem open_c (bs:List UInt8) (hb:bs.length ≤ 1048576):MC Tryz.prog 32 [sl cU bs] [] 0 (fun _:Unit => True) (fun _ => .optr 0 0) (fun _ => [(0,some (cRd (bs.take 2000) 0))]):=by
 refine mc_start Tryz.func32 Tryz.ntmps32 ?_
 repeat' (first|refine stpb ?_|(refine stp2 ?_ ?_ <;> intro hc hq <;> try (exfalso;omega))|fail)
 ·(refine rq_ret rfl ?_; refine mc_ret () trivial ?_ ⟨sE ?_, trivial⟩)
  ·rfl
  ·rfl
 ·(refine rq_ret rfl ?_; refine mc_ret () trivial ?_ ⟨sE ?_, trivial⟩)
  ·rfl
  ·rw [List.take_of_length_le (by omega)]; rfl
def st (op x y n : Int) : AL.Stmt := .mk op x y n [] []
def one0F (bs : List UInt8) (p : Nat) : AL.Stmt × Nat :=
 let box := 1 + pickF bs p 2
 let owner := numF bs (p + 1) [1,2,1,4,5]
 let c := pickF bs (p + 1 + 1) 11
 if c = 0 then (st 1 0 0 (pickF bs (p + 1 + 1 + 1) 10),p + 4)
 else if c = 1 then (st 2 box 0 (pickF bs (p + 1 + 1 + 1) 10),p + 4)
 else if c = 2 then (st 3 box (3 - box) 0,p + 3)
 else if c = 3 then (st 4 3 owner 0,p + 3)
 else if c = 4 ∨ c = 5 then (st 5 4 (numF bs (p + 1 + 1 + 1) [1,2,1,5]) 0,p + 4)
 else if c = 6 then (st 6 0 (numF bs (p + 1 + 1 + 1) [3,4,1,2,5]) 0,p + 4)
 else if c = 7 then (st 7 (numF bs (p + 1 + 1 + 1) [4,1,2,5]) 0 0,p + 4)
 else if c = 8 then (st 8 box 0 0,p + 3)
 else (st 5 5 (numF bs (p + 1 + 1 + 1) [4,1,2]) 0,p + 4)
def someL (one : Nat → AL.Stmt × Nat) (s : AL.Stmt) (p : Nat) : Nat → List AL.Stmt × Nat
 | 0 => ([s],p)
 | k + 1 => ((someL one s p k).1 ++ [(one (someL one s p k).2).1],(one (someL one s p k).2).2)
def oneN (bs : List UInt8) : Nat → Nat → AL.Stmt × Nat
 | 0,p => one0F bs p
 | d + 1, p =>
  let c := pickF bs (p + 1 + 1) 11
  if c = 9 then
   let r := someL (oneN bs d) (st 2 1 0 (pickF bs (p + 1 + 1 + 1 + 1) 10)) (p + 1 + 1 + 1 + 1 + 1) (pickF bs (p + 1 + 1 + 1) 3).toNat
   let e := one0F bs r.2
   (.mk 9 0 0 0 r.1 [e.1],e.2)
  else if c = 10 then
   let a := one0F bs (p + 1 + 1 + 1)
   let b := one0F bs a.2
   (.mk 10 0 0 0 [a.1,b.1] [],b.2)
  else one0F bs p
def oneF (bs : List UInt8) (d : Int) (p : Nat) : AL.Stmt × Nat := oneN bs d.toNat p
def someF (bs : List UInt8) (d n : Int) (p : Nat) : List AL.Stmt × Nat := someL (oneF bs d) (st 2 1 0 (pickF bs p 10)) (p + 1) n.toNat
theorem one0_p (bs:List UInt8) (p:Nat):(one0F bs p).2 ≤ p + 4:=by
 unfold one0F;dsimp only;repeat' split
 all_goals omega
theorem one0_n (bs:List UInt8) (p:Nat):cntS (one0F bs p).1 = 1:=by
 unfold one0F st;dsimp only;repeat' split
 all_goals simp [cntS,cntL]
theorem someL_p {one:Nat → AL.Stmt × Nat}{c:Nat}(h:∀ p,(one p).2 ≤ p + c) (s:AL.Stmt) (p:Nat):∀ k,(someL one s p k).2 ≤ p + k * c
 | 0 => by simp [someL]
 | k + 1 => by
  have := someL_p h s p k
  have := h (someL one s p k).2
  simp only [someL,Nat.succ_mul]; omega
theorem someL_n {one:Nat → AL.Stmt × Nat}{c:Nat}(h:∀ p,cntS (one p).1 ≤ c) (s:AL.Stmt) (p:Nat):∀ k,cntL (someL one s p k).1 ≤ cntS s + k * c
 | 0 => by simp [someL,cntL]
 | k + 1 => by
  have := someL_n h s p k
  have := h (someL one s p k).2
  simp only [someL,Nat.succ_mul,cntL_append,cntL]; omega
def cstP : Nat → Nat
 | 0 => 4
 | d + 1 => 9 + 2 * cstP d
def cstN : Nat → Nat
 | 0 => 1
 | d + 1 => 3 + 2 * cstN d
theorem k3 (bs:List UInt8) (p:Nat):(pickF bs p 3).toNat ≤ 2 := by have := pickF_bd bs p 3;omega
theorem oneN_p (bs:List UInt8):∀ d p,(oneN bs d p).2 ≤ p + cstP d
 | 0,p => one0_p bs p
 | d + 1, p => by
  have h0 := one0_p bs p
  have h1 := someL_p (oneN_p bs d) (st 2 1 0 (pickF bs (p + 1 + 1 + 1 + 1) 10)) (p + 1 + 1 + 1 + 1 + 1) (pickF bs (p + 1 + 1 + 1) 3).toNat
  have h2 := k3 bs (p + 1 + 1 + 1)
  have h3 : (pickF bs (p + 1 + 1 + 1) 3).toNat * cstP d ≤ 2 * cstP d := Nat.mul_le_mul_right _ h2
  have h4 := one0_p bs (someL (oneN bs d) (st 2 1 0 (pickF bs (p + 1 + 1 + 1 + 1) 10)) (p + 1 + 1 + 1 + 1 + 1) (pickF bs (p + 1 + 1 + 1) 3).toNat).2
  have h5 := one0_p bs (p + 1 + 1 + 1)
  have h6 := one0_p bs (one0F bs (p + 1 + 1 + 1)).2
  have h7 : 1 ≤ cstP d := by cases d <;> simp only [cstP] <;> omega
  simp only [oneN,cstP]
  split
  ·dsimp only;omega
  ·split
   ·dsimp only;omega
   ·omega
theorem oneN_n (bs:List UInt8):∀ d p,cntS (oneN bs d p).1 ≤ cstN d
 | 0,p => by rw [oneN,one0_n]; decide
 | d + 1, p => by
  have h0 := one0_n bs p
  have h1 := someL_n (oneN_n bs d) (st 2 1 0 (pickF bs (p + 1 + 1 + 1 + 1) 10)) (p + 1 + 1 + 1 + 1 + 1) (pickF bs (p + 1 + 1 + 1) 3).toNat
  have h2 := k3 bs (p + 1 + 1 + 1)
  have h3 : (pickF bs (p + 1 + 1 + 1) 3).toNat * cstN d ≤ 2 * cstN d := Nat.mul_le_mul_right _ h2
  have h4 := one0_n bs (someL (oneN bs d) (st 2 1 0 (pickF bs (p + 1 + 1 + 1 + 1) 10)) (p + 1 + 1 + 1 + 1 + 1) (pickF bs (p + 1 + 1 + 1) 3).toNat).2
  have h5 := one0_n bs (p + 1 + 1 + 1)
  have h6 := one0_n bs (one0F bs (p + 1 + 1 + 1)).2
  have h7 : cntS (st 2 1 0 (pickF bs (p + 1 + 1 + 1 + 1) 10)) = 1 := by simp [st,cntS,cntL]
  simp only [oneN,cstN]
  split
  ·simp only [cntS,cntL]; omega
  ·split
   ·simp only [cntS,cntL]; omega
   ·omega
theorem oneF_p (bs:List UInt8){d:Int}(h:d ≤ 2) (p:Nat):(oneF bs d p).2 ≤ p + 43:=by
 have h1 := oneN_p bs d.toNat p
 have h2 : cstP d.toNat ≤ 43 := by
  have : d.toNat = 0 ∨ d.toNat = 1 ∨ d.toNat = 2 := by omega
  rcases this with h|h|h <;> rw [h] <;> decide
 exact Nat.le_trans h1 (by omega)
theorem oneF_n (bs:List UInt8){d:Int}(h:d ≤ 2) (p:Nat):cntS (oneF bs d p).1 ≤ 13:=by
 have h1 := oneN_n bs d.toNat p
 have h2 : cstN d.toNat ≤ 13 := by
  have : d.toNat = 0 ∨ d.toNat = 1 ∨ d.toNat = 2 := by omega
  rcases this with h|h|h <;> rw [h] <;> decide
 exact Nat.le_trans h1 h2
theorem someL_len {one:Nat → AL.Stmt × Nat}(s:AL.Stmt) (p:Nat):∀ k,(someL one s p k).1.length = k + 1
 | 0 => rfl
 | k + 1 => by simp only [someL,List.length_append,someL_len s p k,List.length_cons,List.length_nil]
theorem someF_len (bs:List UInt8) (d:Int) (n p:Nat):(someF bs d (n:Int) p).1.length = n + 1 := someL_len _ _ _
theorem someF_S (bs:List UInt8) (d:Int) (k p:Nat):someF bs d ((k + 1:Nat):Int) p = ((someF bs d (k:Int) p).1 ++ [(oneF bs d (someF bs d (k:Int) p).2).1],(oneF bs d (someF bs d (k:Int) p).2).2) := rfl
theorem app_stmt {xs:List AL.Stmt}{m:Nat}{s:AL.Stmt}(hm:m = xs.length):((flat cStmt xs).drop 0).take (m * 6) ++ [iv s.op,iv s.x,iv s.y,iv s.n,sl cStmt s.th,sl cStmt s.el] = flat cStmt (xs ++ [s]) := app_flat hm (cStmt_def s).symm
def uOp (s : AL.Stmt) (a : Int) : AL.Stmt := .mk a s.x s.y s.n s.th s.el
def uX (s : AL.Stmt) (a : Int) : AL.Stmt := .mk s.op a s.y s.n s.th s.el
def uY (s : AL.Stmt) (a : Int) : AL.Stmt := .mk s.op s.x a s.n s.th s.el
def uN (s : AL.Stmt) (a : Int) : AL.Stmt := .mk s.op s.x s.y a s.th s.el
theorem st_sop {xs:List AL.Stmt}{k:Nat}{a:Int}(hk:k < xs.length):spl (flat cStmt xs) (0 + k * 6 + 0) [iv a] = flat cStmt (xs.set k (uOp xs[k]! a)) := st_flat hk (by simp) (by rw [cStmt_def,cStmt_def]; rfl)
theorem st_sx {xs:List AL.Stmt}{k:Nat}{a:Int}(hk:k < xs.length):spl (flat cStmt xs) (0 + k * 6 + 1) [iv a] = flat cStmt (xs.set k (uX xs[k]! a)) := st_flat hk (by simp) (by rw [cStmt_def,cStmt_def]; rfl)
theorem st_sy {xs:List AL.Stmt}{k:Nat}{a:Int}(hk:k < xs.length):spl (flat cStmt xs) (0 + k * 6 + 2) [iv a] = flat cStmt (xs.set k (uY xs[k]! a)) := st_flat hk (by simp) (by rw [cStmt_def,cStmt_def]; rfl)
theorem st_sn {xs:List AL.Stmt}{k:Nat}{a:Int}(hk:k < xs.length):spl (flat cStmt xs) (0 + k * 6 + 3) [iv a] = flat cStmt (xs.set k (uN xs[k]! a)) := st_flat hk (by simp) (by rw [cStmt_def,cStmt_def]; rfl)
theorem someF_p (bs:List UInt8){d:Int}(h:d ≤ 2) (n:Int) (p:Nat):(someF bs d n p).2 ≤ p + 1 + n.toNat * 43 := someL_p (oneF_p bs h) _ _ _
theorem someF_n (bs:List UInt8){d:Int}(h:d ≤ 2) (n:Int) (p:Nat):cntL (someF bs d n p).1 ≤ 1 + n.toNat * 13:=by
 have h7 : cntS (st 2 1 0 (pickF bs p 10)) = 1 := by simp [st,cntS,cntL]
 have := someL_n (oneF_n bs h) (st 2 1 0 (pickF bs p 10)) (p + 1) n.toNat
 rw [h7] at this
 exact this
theorem oneF_S (bs:List UInt8){d:Int}(h:0 < d) (p:Nat):oneF bs d p = 
  let c := pickF bs (p + 1 + 1) 11
  if c = 9 then
   let r := someF bs (d - 1) (pickF bs (p + 1 + 1 + 1) 3) (p + 1 + 1 + 1 + 1)
   let e := oneF bs 0 r.2
   (.mk 9 0 0 0 r.1 [e.1],e.2)
  else if c = 10 then
   let a := oneF bs 0 (p + 1 + 1 + 1)
   let b := oneF bs 0 a.2
   (.mk 10 0 0 0 [a.1,b.1] [],b.2)
  else one0F bs p := by
 have : d.toNat = (d - 1).toNat + 1 := by omega
 simp only [oneF,this,oneN,someF]
 rfl
theorem flat1 (s:AL.Stmt):flat cStmt [s] = [iv s.op,iv s.x,iv s.y,iv s.n,sl cStmt s.th,sl cStmt s.el] := by simp [flat,cStmt_def]
theorem flat2 (s t:AL.Stmt):flat cStmt [s,t] = [iv s.op,iv s.x,iv s.y,iv s.n,sl cStmt s.th,sl cStmt s.el,iv t.op,iv t.x,iv t.y,iv t.n,sl cStmt t.th,sl cStmt t.el] := by simp [flat,cStmt_def]
theorem oneF_b (bs:List UInt8){d:Int}(h0:0 ≤ d) (p:Nat) (h:¬ 0 < d ∨ (pickF bs (p + 1 + 1) 11 ≠ 9 ∧ pickF bs (p + 1 + 1) 11 ≠ 10)):oneF bs d p = one0F bs p:=by
 by_cases hd : 0 < d
 ·rw [oneF_S bs hd p]
  dsimp only
  rw [if_neg (by omega),if_neg (by omega)]
 ·have : d = 0 := by omega
  subst this;rfl
theorem oneF_9 (bs:List UInt8){d:Int}(hd:0 < d) (p:Nat) (h:pickF bs (p + 1 + 1) 11 = 9):oneF bs d p = (.mk 9 0 0 0 (someF bs (d - 1) (pickF bs (p + 1 + 1 + 1) 3) (p + 1 + 1 + 1 + 1)).1 [(oneF bs 0 (someF bs (d - 1) (pickF bs (p + 1 + 1 + 1) 3) (p + 1 + 1 + 1 + 1)).2).1],(oneF bs 0 (someF bs (d - 1) (pickF bs (p + 1 + 1 + 1) 3) (p + 1 + 1 + 1 + 1)).2).2):=by
 rw [oneF_S bs hd p]
 dsimp only
 rw [if_pos h]
theorem oneF_10 (bs:List UInt8){d:Int}(hd:0 < d) (p:Nat) (h:pickF bs (p + 1 + 1) 11 = 10):oneF bs d p = (.mk 10 0 0 0 [(oneF bs 0 (p + 1 + 1 + 1)).1,(oneF bs 0 (oneF bs 0 (p + 1 + 1 + 1)).2).1] [],(oneF bs 0 (oneF bs 0 (p + 1 + 1 + 1)).2).2):=by
 rw [oneF_S bs hd p]
 dsimp only
 rw [if_neg (by omega),if_pos h]
theorem rx_l1One {bs:List UInt8}{p:Nat}{ts:List Int}{dp:Int}{x0 x1 x2:Operand}{i0:Nat}(ha0:ev (lk tsl) x0 = some (.optr i0 0)) (ha1:ev (lk tsl) x1 = some (sl cI ts)) (ha2:ev (lk tsl) x2 = some (iv dp)) (hH0:lkH hsl i0 = some (cRd bs p)) (hmc:MC Tryz.prog 146 [.optr 0 0,sl cI ts,iv dp] [(0,some (cRd bs p))] 1 (fun _:Unit => True) (fun _ => aStmt (oneF bs dp p).1) (fun _ => [(0,some (cRd bs (oneF bs dp p).2))])) (hM:Nat.ble (nidl + 0) big = true) (hN:Nat.blt d N = true){md':Md}[hmd:MdA md (rOs [x0,x1,x2] ++ [.inr i0]) (List.map Sum.inr (List.map Prod.fst ([(i0,some (cRd bs (oneF bs dp p).2))]:List (Nat × Option (List AV)))) ++ [.inl d]) md'] (kk:RW Tryz.prog N all Q md' rest ⟨(d,aStmt (oneF bs dp p).1) :: tsl,wrH hsl [(i0,some (cRd bs (oneF bs dp p).2))],nidl + 0,z0⟩):RW Tryz.prog N all Q md (⟨some d,.call ⟨.value (.func 146),#[x0,x1,x2],tys⟩,ty,pos,af,none⟩ :: rest) ⟨tsl,hsl,nidl,z0⟩:=by
 exact rx_mcallA (l := [x0,x1,x2]) [i0] 1 [(i0,some (cRd bs (oneF bs dp p).2))] hmc (avs := [.optr i0 0,sl cI ts,iv dp]) (by simp only [evL,ha0,ha1,ha2]) rfl hM hN (md' := md') (hmd := hmd) kk
theorem rx_l1Some {bs:List UInt8}{p:Nat}{ts:List Int}{dp cn:Int}{x0 x1 x2 x3:Operand}{i0:Nat}(ha0:ev (lk tsl) x0 = some (.optr i0 0)) (ha1:ev (lk tsl) x1 = some (sl cI ts)) (ha2:ev (lk tsl) x2 = some (iv dp)) (ha3:ev (lk tsl) x3 = some (iv cn)) (hH0:lkH hsl i0 = some (cRd bs p)) (hmc:MC Tryz.prog 98 [.optr 0 0,sl cI ts,iv dp,iv cn] [(0,some (cRd bs p))] 1 (fun _:Unit => True) (fun _ => sl cStmt (someF bs dp cn p).1) (fun _ => [(0,some (cRd bs (someF bs dp cn p).2))])) (hM:Nat.ble (nidl + 0) big = true) (hN:Nat.blt d N = true){md':Md}[hmd:MdA md (rOs [x0,x1,x2,x3] ++ [.inr i0]) (List.map Sum.inr (List.map Prod.fst ([(i0,some (cRd bs (someF bs dp cn p).2))]:List (Nat × Option (List AV)))) ++ [.inl d]) md'] (kk:RW Tryz.prog N all Q md' rest ⟨(d,sl cStmt (someF bs dp cn p).1) :: tsl,wrH hsl [(i0,some (cRd bs (someF bs dp cn p).2))],nidl + 0,z0⟩):RW Tryz.prog N all Q md (⟨some d,.call ⟨.value (.func 98),#[x0,x1,x2,x3],tys⟩,ty,pos,af,none⟩ :: rest) ⟨tsl,hsl,nidl,z0⟩:=by
 exact rx_mcallA (l := [x0,x1,x2,x3]) [i0] 1 [(i0,some (cRd bs (someF bs dp cn p).2))] hmc (avs := [.optr i0 0,sl cI ts,iv dp,iv cn]) (by simp only [evL,ha0,ha1,ha2,ha3]) rfl hM hN (md' := md') (hmd := hmd) kk
attribute [local irreducible] pickF
theorem l1One_c0 (D:Int) (hD0:0 ≤ D) (hD:D ≤ 2) (l1One_ih:∀ bs p ts,0 < D → bs.length ≤ 2000 → p ≤ 900000 → ∀ dp:Int,dp = 0 → MC Tryz.prog 146 [.optr 0 0,sl cI ts,iv dp] [(0,some (cRd bs p))] 1 (fun _:Unit => True) (fun _ => aStmt (oneF bs dp p).1) (fun _ => [(0,some (cRd bs (oneF bs dp p).2))])) (l1Some_ih:∀ bs (p:Nat) ts cn,0 < D → bs.length ≤ 2000 → (p:Int) ≤ 850000 - 100000 * (D - 1) → 0 ≤ cn → cn ≤ 2 → ∀ dp:Int,dp = D - 1 → MC Tryz.prog 98 [.optr 0 0,sl cI ts,iv dp,iv cn] [(0,some (cRd bs p))] 1 (fun _:Unit => True) (fun _ => sl cStmt (someF bs dp cn p).1) (fun _ => [(0,some (cRd bs (someF bs dp cn p).2))])) (bs:List UInt8) (p:Nat) (ts:List Int) (dp:Int) (hd:dp = D) (hb:bs.length ≤ 2000) (hp:(p:Int) ≤ 900000 - 100000 * D):MC Tryz.prog 146 [.optr 0 0,sl cI ts,iv dp] [(0,some (cRd bs p))] 1 (fun _:Unit => True) (fun _ => aStmt (oneF bs dp p).1) (fun _ => [(0,some (cRd bs (oneF bs dp p).2))]):=by
 subst hd
 have h0 := pickF_bd bs p 2
 have h2 := pickF_bd bs (p + 1 + 1) 11
 have h3 := pickF_bd bs (p + 1 + 1 + 1) 3
 have h3' := k3 bs (p + 1 + 1 + 1)
 have h4 := oneF_p bs (d := 0) (by omega) (p + 1 + 1 + 1)
 have h5 := someF_p bs (d := dp - 1) (by omega) (pickF bs (p + 1 + 1 + 1) 3) (p + 1 + 1 + 1 + 1)
 have h6 : (pickF bs (p + 1 + 1 + 1) 3).toNat * 43 ≤ 2 * 43 := Nat.mul_le_mul_right _ h3'
 refine mc_start Tryz.func146 Tryz.ntmps146 ?_
 repeat' (first|(apply id_rw;first|(apply rx_buildSliceI (t := _);rfl;rfl;rfl;(first|exact (rfl:_=some [_,_,_])|exact (rfl:_=some [_,_,_,_])|exact (rfl:_=some [_,_,_,_,_])|exact (rfl:_=some [_,_,_,_,_,_])|rfl);rfl;rfl)|(first|(apply rx_pick;rfl;rfl;(rfl);(apply pick_c <;> (first|assumption|omega));rfl;rfl)|(apply rx_num;rfl;rfl;infer_instance;rfl;(rfl);assumption;omega;(decide);(decide);rfl;rfl)|(apply rx_l1Some;rfl;rfl;rfl;rfl;(rfl);(apply l1Some_ih <;> (first|assumption|omega));rfl;rfl)|(apply rx_l1One;rfl;rfl;rfl;(rfl);(apply l1One_ih <;> (first|assumption|omega));rfl;rfl)))|refine stpb ?_|(refine stp2 ?_ ?_ <;> intro hc hq <;> try (exfalso;omega))|fail)
 all_goals try (refine rq_ret rfl ?_; refine mc_ret () trivial ?_ ⟨sE ?_,trivial⟩)
 all_goals try (rw [oneF_b bs hD0 p (by omega)]; unfold one0F; dsimp only; repeat' split
                all_goals (first|rfl|(exfalso;omega));done)
 iterate 2
  rewrite [oneF_9 bs (d := dp) (by assumption) p (by assumption)]
  first|rfl|(refine Eq.trans (b := AV.agg [_,_,_,_,_,AV.imm 1 (flat cStmt [_])]) ?_ rfl;rw [flat1]; rfl)
 iterate 2
  rewrite [oneF_10 bs (d := dp) (by omega) p (by omega)]
  first|rfl|(refine Eq.trans (b := AV.agg [_,_,_,_,AV.imm 2 (flat cStmt [_,_]),_]) ?_ rfl;rw [flat2]; rfl)
theorem l1Some_c0 (D:Int) (hD0:0 ≤ D) (hD:D ≤ 2) (l1One_ih:∀ bs (p:Nat) ts,bs.length ≤ 2000 → (p:Int) ≤ 900000 - 100000 * D → ∀ dp:Int,dp = D → MC Tryz.prog 146 [.optr 0 0,sl cI ts,iv dp] [(0,some (cRd bs p))] 1 (fun _:Unit => True) (fun _ => aStmt (oneF bs dp p).1) (fun _ => [(0,some (cRd bs (oneF bs dp p).2))])) (bs:List UInt8) (p:Nat) (ts:List Int) (dp:Int) (hd:dp = D) (cn:Int) (hb:bs.length ≤ 2000) (hp:(p:Int) ≤ 850000 - 100000 * D) (hc0:0 ≤ cn) (hc:cn ≤ 8):MC Tryz.prog 98 [.optr 0 0,sl cI ts,iv dp,iv cn] [(0,some (cRd bs p))] 1 (fun _:Unit => True) (fun _ => sl cStmt (someF bs dp cn p).1) (fun _ => [(0,some (cRd bs (someF bs dp cn p).2))]):=by
 subst hd
 refine mc_start Tryz.func98 Tryz.ntmps98 ?_
 repeat' (first|(apply id_rw;(apply rx_pick;rfl;rfl;(rfl);(apply pick_c <;> (first|assumption|omega));rfl;rfl))|refine stpb ?_|fail)
 refine aw_loopA (σ := Nat × List AL.Stmt × Nat) [0,1,2,3] [] (fun k => [(10,iv (k.1 : Int)),(9,.own 1 0 (k.1 + 1) 6)]) (fun k => [(0,some (cRd bs k.2.2)),(1,some (flat cStmt k.2.1))]) (fun k => (k.1 : Int) ≤ cn ∧ k.2 = someF bs dp (k.1 : Int) p) (fun k => cn.toNat - k.1) (0,[st 2 1 0 (pickF bs p 10)],p + 1) ⟨by omega,rfl⟩ ?_
 rintro ⟨k,xs,q⟩ ⟨hk,hse⟩
 dsimp only at hk hse ⊢
 have hp2 := someF_p bs (d := dp) (by omega) (k : Int) p
 have hkk : (k : Int).toNat * 43 ≤ 8 * 43 := Nat.mul_le_mul_right _ (by omega)
 have hln := someF_len bs dp k p
 rw [← hse] at hp2 hln
 dsimp only at hp2 hln
 repeat' (first|(apply id_rw;first|(apply rx_buildSliceI (t := _);rfl;rfl;rfl;(exact (rfl:_=some [_,_,_,_,_,_]));rfl;rfl)|(apply rx_l1One;rfl;rfl;rfl;(rfl);(apply l1One_ih <;> (first|assumption|omega));rfl;rfl))|refine stpb ?_|(refine stp2 ?_ ?_ <;> intro hc hq <;> try (exfalso;omega))|fail)
 ·(refine ex3 (k + 1, _, _) (Le.renA [(1, 3)]) ?_ ?_)
  ·dsimp only
   refine ⟨by omega,?_⟩
   rw [someF_S,← hse]
  ·dsimp only;omega
 ·have hke : (k : Int) = cn := by omega
  rw [hke] at hse
  (refine rq_le (Le.frzD (d := 8) (i := 1) rfl rfl) ?_; refine rq_ret rfl ?_)
  refine mc_ret () trivial ?_ ⟨sE ?_,trivial⟩
  ·rw [← hse]; show AV.imm (k + 1) (flat cStmt xs) = AV.imm xs.length (flat cStmt xs)
   rw [hln]
  ·rw [← hse]
theorem l1One_both:∀ D:Nat,D ≤ 2 → (∀ bs (p:Nat) ts,bs.length ≤ 2000 → (p:Int) ≤ 900000 - 100000 * (D:Int) → ∀ dp:Int,dp = (D:Int) → MC Tryz.prog 146 [.optr 0 0,sl cI ts,iv dp] [(0,some (cRd bs p))] 1 (fun _:Unit => True) (fun _ => aStmt (oneF bs dp p).1) (fun _ => [(0,some (cRd bs (oneF bs dp p).2))])) ∧ (∀ bs (p:Nat) ts (cn:Int),bs.length ≤ 2000 → (p:Int) ≤ 850000 - 100000 * (D:Int) → 0 ≤ cn → cn ≤ 8 → ∀ dp:Int,dp = (D:Int) → MC Tryz.prog 98 [.optr 0 0,sl cI ts,iv dp,iv cn] [(0,some (cRd bs p))] 1 (fun _:Unit => True) (fun _ => sl cStmt (someF bs dp cn p).1) (fun _ => [(0,some (cRd bs (someF bs dp cn p).2))]))
 | 0, _ => by
  have h1 : ∀ bs (p : Nat) ts, bs.length ≤ 2000 → (p : Int) ≤ 900000 - 100000 * ((0 : Nat) : Int) → ∀ dp : Int, dp = ((0 : Nat) : Int) → MC Tryz.prog 146 [.optr 0 0, sl cI ts, iv dp] [(0, some (cRd bs p))] 1 (fun _ : Unit => True) (fun _ => aStmt (oneF bs dp p).1) (fun _ => [(0, some (cRd bs (oneF bs dp p).2))]) :=
   fun bs p ts hb hp dp hd => l1One_c0 ((0 : Nat) : Int) (by omega) (by omega) (fun _ _ _ h => by omega) (fun _ _ _ _ h => by omega) bs p ts dp hd hb hp
  exact ⟨h1,fun bs p ts cn hb hp h0 h8 dp hd => l1Some_c0 ((0 : Nat) : Int) (by omega) (by omega) h1 bs p ts dp hd cn hb hp h0 h8⟩
 | D + 1, hD => by
  have ih := l1One_both D (by omega)
  have i0 := l1One_both 0 (by omega)
  have h1 : ∀ bs (p : Nat) ts, bs.length ≤ 2000 → (p : Int) ≤ 900000 - 100000 * ((D + 1 : Nat) : Int) → ∀ dp : Int, dp = ((D + 1 : Nat) : Int) → MC Tryz.prog 146 [.optr 0 0, sl cI ts, iv dp] [(0, some (cRd bs p))] 1 (fun _ : Unit => True) (fun _ => aStmt (oneF bs dp p).1) (fun _ => [(0, some (cRd bs (oneF bs dp p).2))]) :=
   fun bs p ts hb hp dp hd => l1One_c0 ((D + 1 : Nat) : Int) (by omega) (by omega) (fun bs p ts _ hb hp dp hd => i0.1 bs p ts hb (by omega) dp (by omega)) (fun bs p ts cn _ hb hp h0 h2 dp hd => ih.2 bs p ts cn hb (by omega) h0 (by omega) dp (by omega)) bs p ts dp hd hb hp
  exact ⟨h1,fun bs p ts cn hb hp h0 h8 dp hd => l1Some_c0 ((D + 1 : Nat) : Int) (by omega) (by omega) h1 bs p ts dp hd cn hb hp h0 h8⟩
theorem l1Some_c (bs:List UInt8) (p:Nat) (ts:List Int) (dp cn:Int) (hb:bs.length ≤ 2000) (hp:p ≤ 600000) (h0:0 ≤ cn) (h8:cn ≤ 8) (hd0:0 ≤ dp) (hd:dp ≤ 2):MC Tryz.prog 98 [.optr 0 0,sl cI ts,iv dp,iv cn] [(0,some (cRd bs p))] 1 (fun _:Unit => True) (fun _ => sl cStmt (someF bs dp cn p).1) (fun _ => [(0,some (cRd bs (someF bs dp cn p).2))]) :=
 (l1One_both dp.toNat (by omega)).2 bs p ts cn hb (by omega) h0 h8 dp (by omega)
end Go.Proofs.YtjnhlgpbojggnaaGreatDoor
namespace Go.Proofs.YtjnhlgpbojggnaaGreatDoor
open Go.AL Go.RowKit
variable {N : Nat} {Q : Exit → AS → Prop} {all : Array Oper} {rest : List Oper} {tsl : List (Nat × AV)} {hsl : List (Nat × Option (List AV))} {nidl : Nat} {z0 : Lo} {md : Md} {d : Nat} {ty : TypeId} {pos : String} {af : Array Edge} {tys : Array TypeId}
theorem RdC_kav {w:World}{bad:Nat → Prop}{ι:Pl}:∀ {cs cs':List AV},All2 (fun c c' => c' = c ∨ c' = kAV c) cs cs' → ∀ {b β:Nat},RdC w bad ι cs b β → RdC w bad ι cs' b β
 | _,_,.nil,_,_,h => h
 | _, _, .cons h1 h2, b, β, h => by
  simp only [RdC] at h ⊢
  obtain ⟨⟨x,q1,q2,q3⟩,q4⟩ := h
  refine ⟨⟨x,q1,q2,?_⟩,RdC_kav h2 q4⟩
  rcases h1 with rfl|rfl
  ·exact q3
  ·exact Rd_kAV q3
theorem kav_app:∀ (l:List AV){a b:List AV},All2 (fun c c' => c' = c ∨ c' = kAV c) a b → All2 (fun c c' => c' = c ∨ c' = kAV c) (l ++ a) (l ++ b)
 | [],_,_,h => h
 | _ :: l,_,_,h => .cons (.inl rfl) (kav_app l h)
theorem end_le {α:Type}{p q:α → Prop}{F:α → AS}{s s':AS}(L:Le s s') (h:∃ j,p j ∧ q j ∧ Le s' (F j)):∃ j,p j ∧ q j ∧ Le s (F j):=by
 obtain ⟨j,h1,h2,h3⟩ := h
 exact ⟨j,h1,h2,L.trans h3⟩
theorem Le.stmtN {ts:List (Nat × AV)}{hs:List (Nat × Option (List AV))}{n i:Nat}{z0:Lo}{xs:List AL.Stmt}(s:AL.Stmt){m:Nat}{a b:AV}(hm:m = xs.length)
  (ha : a = sl cStmt s.th ∨ (a = .v (.slice none 0 0) ∧ s.th = [])) (hb : b = sl cStmt s.el ∨ (b = .v (.slice none 0 0) ∧ s.el = []))
  (hi : lkH hs i = some (((flat cStmt xs).drop 0).take (m * 6) ++ List.take (1 * 6) [iv s.op,iv s.x,iv s.y,iv s.n,a,b])) : Le ⟨ts,hs,n,z0⟩ ⟨ts,(i,some (flat cStmt (xs ++ [s]))) :: hs,n,z0⟩ := by
 have e : flat cStmt (xs ++ [s]) = ((flat cStmt xs).drop 0).take (m * 6) ++ [iv s.op,iv s.x,iv s.y,iv s.n,sl cStmt s.th,sl cStmt s.el] := (app_stmt hm).symm
 have k : All2 (fun c c' => c' = c ∨ c' = kAV c) (((flat cStmt xs).drop 0).take (m * 6) ++ List.take (1 * 6) [iv s.op, iv s.x, iv s.y, iv s.n, a, b]) (flat cStmt (xs ++ [s])) := by
  rw [e]
  refine kav_app _ (.cons (.inl rfl) (.cons (.inl rfl) (.cons (.inl rfl) (.cons (.inl rfl) (.cons ?_ (.cons ?_ .nil))))))
  ·rcases ha with h | ⟨h, h2⟩
   ·exact .inl h.symm
   ·refine .inr ?_; rw [h2,h]; rfl
  ·rcases hb with h | ⟨h, h2⟩
   ·exact .inl h.symm
   ·refine .inr ?_; rw [h2,h]; rfl
 refine Le.cells hi ?_ fun w bad ι b β h => RdC_kav k h
 rw [e]; simp
theorem copy_c0 (mm:Nat) (hmm:mm ≤ 1048576) (copy_ih:∀ l,cntL l < mm → PC Tryz.prog 100 [sl cStmt l] (fun r => r = sl cStmt l)) (l:List AL.Stmt) (hs:cntL l ≤ mm):PC Tryz.prog 100 [sl cStmt l] (fun r => r = sl cStmt l):=by
 have hlen := cntL_len l
 refine pc_start Tryz.func100 Tryz.ntmps100 ?_
 repeat' (first|refine stpb ?_|fail)
 refine aw_loopA (σ := Nat × List AL.Stmt) [0] [] (fun k => [(4,iv (k.1 : Int)),(3,.own 0 0 k.1 6)]) (fun k => [(0,some (flat cStmt k.2))]) (fun k => k.1 ≤ l.length ∧ k.2 = l.take k.1) (fun k => l.length - k.1) (0,[]) ⟨by omega,rfl⟩ ?_
 rintro ⟨k,xs⟩ ⟨hk,hxs⟩
 dsimp only at hk hxs ⊢
 have hck := cntL_at l k
 have hct := cnt_th l[k]!
 have hln : xs.length = k := by rw [hxs,List.length_take]; omega
 repeat' (first|(apply id_rw;first|(apply rx_buildSliceI (t := _);rfl;rfl;rfl;(exact (rfl:_=some [_,_,_,_,_,_]));rfl;rfl)|(apply rx_callE (k := 100);rfl;(apply copy_ih <;> (omega));exact Pur.pf;rfl))|refine stpb ?_|(refine stp2 ?_ ?_ <;> intro hc hq <;> try (exfalso;omega))|fail)
 ·(refine ex3 (k + 1, _) (Le.renA [(0, 3)]) ?_ ?_)
  ·exact ⟨by dsimp only;omega,by dsimp only;rw [hxs,take_succB l k (by omega)]⟩
  ·dsimp only;omega
 ·have hel : l[k]!.el = [] := List.eq_nil_of_length_eq_zero (by omega)
  refine end_le (Le.stmtN (i := 3) l[k]! hln.symm (.inl rfl) (.inr ⟨rfl,hel⟩) rfl) ?_
  (refine ex3 (k + 1,_) (Le.renA [(0,3)]) ?_ ?_)
  ·exact ⟨by dsimp only;omega,by dsimp only;rw [hxs,take_succB l k (by omega)]⟩
  ·dsimp only;omega
 ·have hth : l[k]!.th = [] := List.eq_nil_of_length_eq_zero (by omega)
  refine end_le (Le.stmtN (i := 3) l[k]! hln.symm (.inr ⟨rfl,hth⟩) (.inl rfl) rfl) ?_
  (refine ex3 (k + 1,_) (Le.renA [(0,3)]) ?_ ?_)
  ·exact ⟨by dsimp only;omega,by dsimp only;rw [hxs,take_succB l k (by omega)]⟩
  ·dsimp only;omega
 ·have hth : l[k]!.th = [] := List.eq_nil_of_length_eq_zero (by omega)
  have hel : l[k]!.el = [] := List.eq_nil_of_length_eq_zero (by omega)
  refine end_le (Le.stmtN (i := 3) l[k]! hln.symm (.inr ⟨rfl,hth⟩) (.inr ⟨rfl,hel⟩) rfl) ?_
  (refine ex3 (k + 1,_) (Le.renA [(0,3)]) ?_ ?_)
  ·exact ⟨by dsimp only;omega,by dsimp only;rw [hxs,take_succB l k (by omega)]⟩
  ·dsimp only;omega
 ·have hke : k = l.length := by omega
  (refine rq_le (Le.frzD (d := 2) (i := 0) rfl rfl) ?_; refine rq_ret rfl ?_)
  refine ⟨?_,Pur.pf⟩
  rw [hxs,hke,List.take_length]; rfl
theorem copy_c (l:List AL.Stmt) (hb:cntL l ≤ 1048576):PC Tryz.prog 100 [sl cStmt l] (fun r => r = sl cStmt l):=by
 have key : ∀ m, m ≤ 1048576 → ∀ l, cntL l ≤ m → PC Tryz.prog 100 [sl cStmt l] (fun r => r = sl cStmt l) := by
  intro m
  induction m with
  | zero => intro hm l hl;exact copy_c0 0 hm (fun l h => by omega) l hl
  | succ m ih => intro hm l hl;exact copy_c0 (m + 1) hm (fun l h => ih (by omega) l (by omega)) l hl
 exact key (cntL l) hb l (Nat.le_refl _)
theorem copyM_c (l:List AL.Stmt) (hs:cntL l ≤ 1048576):MC Tryz.prog 100 [sl cStmt l] [] 0 (fun _:Unit => True) (fun _ => .own 0 0 l.length 6) (fun _ => [(0,some (flat cStmt l))]):=by
 have hlen := cntL_len l
 refine mc_start Tryz.func100 Tryz.ntmps100 ?_
 repeat' (first|refine stpb ?_|fail)
 refine aw_loopA (σ := Nat × List AL.Stmt) [0] [] (fun k => [(4,iv (k.1 : Int)),(3,.own 0 0 k.1 6)]) (fun k => [(0,some (flat cStmt k.2))]) (fun k => k.1 ≤ l.length ∧ k.2 = l.take k.1) (fun k => l.length - k.1) (0,[]) ⟨by omega,rfl⟩ ?_
 rintro ⟨k,xs⟩ ⟨hk,hxs⟩
 dsimp only at hk hxs ⊢
 have hck := cntL_at l k
 have hct := cnt_th l[k]!
 have hln : xs.length = k := by rw [hxs,List.length_take]; omega
 repeat' (first|(apply id_rw;first|(apply rx_buildSliceI (t := _);rfl;rfl;rfl;(exact (rfl:_=some [_,_,_,_,_,_]));rfl;rfl)|(apply rx_callE (k := 100);rfl;(apply copy_c <;> (omega));exact Pur.pf;rfl))|refine stpb ?_|(refine stp2 ?_ ?_ <;> intro hc hq <;> try (exfalso;omega))|fail)
 ·(refine ex3 (k + 1, _) (Le.renA [(0, 3)]) ?_ ?_)
  ·exact ⟨by dsimp only;omega,by dsimp only;rw [hxs,take_succB l k (by omega)]⟩
  ·dsimp only;omega
 ·have hel : l[k]!.el = [] := List.eq_nil_of_length_eq_zero (by omega)
  refine end_le (Le.stmtN (i := 3) l[k]! hln.symm (.inl rfl) (.inr ⟨rfl,hel⟩) rfl) ?_
  (refine ex3 (k + 1,_) (Le.renA [(0,3)]) ?_ ?_)
  ·exact ⟨by dsimp only;omega,by dsimp only;rw [hxs,take_succB l k (by omega)]⟩
  ·dsimp only;omega
 ·have hth : l[k]!.th = [] := List.eq_nil_of_length_eq_zero (by omega)
  refine end_le (Le.stmtN (i := 3) l[k]! hln.symm (.inr ⟨rfl,hth⟩) (.inl rfl) rfl) ?_
  (refine ex3 (k + 1,_) (Le.renA [(0,3)]) ?_ ?_)
  ·exact ⟨by dsimp only;omega,by dsimp only;rw [hxs,take_succB l k (by omega)]⟩
  ·dsimp only;omega
 ·have hth : l[k]!.th = [] := List.eq_nil_of_length_eq_zero (by omega)
  have hel : l[k]!.el = [] := List.eq_nil_of_length_eq_zero (by omega)
  refine end_le (Le.stmtN (i := 3) l[k]! hln.symm (.inr ⟨rfl,hth⟩) (.inr ⟨rfl,hel⟩) rfl) ?_
  (refine ex3 (k + 1,_) (Le.renA [(0,3)]) ?_ ?_)
  ·exact ⟨by dsimp only;omega,by dsimp only;rw [hxs,take_succB l k (by omega)]⟩
  ·dsimp only;omega
 ·have hke : k = l.length := by omega
  have hxl : xs = l := by rw [hxs,hke,List.take_length]
  subst hke
  refine rq_ret rfl ?_
  refine mc_ret () trivial ?_ ⟨sE ?_,trivial⟩
  ·rfl
  ·rw [hxl]
theorem rx_copyM {l:List AL.Stmt}{x0:Operand}(ha0:ev (lk tsl) x0 = some (sl cStmt l)) (hmc:MC Tryz.prog 100 [sl cStmt l] [] 0 (fun _:Unit => True) (fun _ => .own 0 0 l.length 6) (fun _ => [(0,some (flat cStmt l))])) (hM:Nat.ble (nidl + 1) big = true) (hN:Nat.blt d N = true){md':Md}[hmd:MdA md (rOs [x0] ++ []) (List.map Sum.inr (List.map Prod.fst ([(nidl,some (flat cStmt l))]:List (Nat × Option (List AV)))) ++ [.inl d]) md'] (kk:RW Tryz.prog N all Q md' rest ⟨(d,.own nidl 0 l.length 6) :: tsl,wrH hsl [(nidl,some (flat cStmt l))],nidl + 1,z0⟩):RW Tryz.prog N all Q md (⟨some d,.call ⟨.value (.func 100),#[x0],tys⟩,ty,pos,af,none⟩ :: rest) ⟨tsl,hsl,nidl,z0⟩:=by
 exact rx_mcallA (l := [x0]) [] 1 [(nidl,some (flat cStmt l))] hmc (avs := [sl cStmt l]) (by simp only [evL,ha0]) rfl hM hN (md' := md') (hmd := hmd) kk
theorem rx_copyOf {q:Prg}{x0:Operand}(ha0:ev (lk tsl) x0 = some (aPrg q)) (hmc:MC Tryz.prog 58 [aPrg q] [] 0 (fun _:Unit => True) (fun _ => .agg [.own 3 0 q.types.length 1,.own 4 0 q.body.length 6]) (fun _ => [(3,some (flat cI q.types)),(4,some (flat cStmt q.body))])) (hM:Nat.ble (nidl + 5) big = true) (hN:Nat.blt d N = true){md':Md}[hmd:MdA md (rOs [x0] ++ []) (List.map Sum.inr (List.map Prod.fst ([((nidl + 3),some (flat cI q.types)),((nidl + 4),some (flat cStmt q.body))]:List (Nat × Option (List AV)))) ++ [.inl d]) md'] (kk:RW Tryz.prog N all Q md' rest ⟨(d,.agg [.own (nidl + 3) 0 q.types.length 1,.own (nidl + 4) 0 q.body.length 6]) :: tsl,wrH hsl [((nidl + 3),some (flat cI q.types)),((nidl + 4),some (flat cStmt q.body))],nidl + 5,z0⟩):RW Tryz.prog N all Q md (⟨some d,.call ⟨.value (.func 58),#[x0],tys⟩,ty,pos,af,none⟩ :: rest) ⟨tsl,hsl,nidl,z0⟩:=by
 exact rx_mcallA (l := [x0]) [] 5 [((nidl + 3),some (flat cI q.types)),((nidl + 4),some (flat cStmt q.body))] hmc (avs := [aPrg q]) (by simp only [evL,ha0]) rfl hM hN (md' := md') (hmd := hmd) kk
theorem copyOf_c (q:Prg) (hs:cntL q.body ≤ 1048576) (ht:q.types.length ≤ 1048576):MC Tryz.prog 58 [aPrg q] [] 0 (fun _:Unit => True) (fun _ => .agg [.own 3 0 q.types.length 1,.own 4 0 q.body.length 6]) (fun _ => [(3,some (flat cI q.types)),(4,some (flat cStmt q.body))]):=by
 refine mc_start Tryz.func58 Tryz.ntmps58 ?_
 repeat' (first|(apply id_rw;(apply rx_copyM;rfl;(apply copyM_c;assumption);rfl;rfl))|refine stpb ?_|refine stpd ?_|fail)
 refine rq_ret rfl ?_
 refine mc_ret () trivial ?_ ⟨sE ?_,sE ?_,trivial⟩
 ·show AV.agg [AV.own 3 0 (0 + q.types.length) 1, AV.own 4 0 q.body.length 6] = _
  rw [Nat.zero_add]
 ·rfl
 ·rfl
theorem cntS_uOp (s:AL.Stmt) (a:Int):cntS (uOp s a) = cntS s := by simp [cntS_def,uOp,AL.Stmt.th,AL.Stmt.el]
theorem cntS_uX (s:AL.Stmt) (a:Int):cntS (uX s a) = cntS s := by simp [cntS_def,uX,AL.Stmt.th,AL.Stmt.el]
theorem cntS_uY (s:AL.Stmt) (a:Int):cntS (uY s a) = cntS s := by simp [cntS_def,uY,AL.Stmt.th,AL.Stmt.el]
theorem cntS_uN (s:AL.Stmt) (a:Int):cntS (uN s a) = cntS s := by simp [cntS_def,uN,AL.Stmt.th,AL.Stmt.el]
theorem cntL_set:∀ (xs:List AL.Stmt) (k:Nat) (y:AL.Stmt),k < xs.length → cntS y = cntS xs[k]! → cntL (xs.set k y) = cntL xs
 | [],k,y,h,_ => by simp at h
 | x :: xs,0,y,_,h => by simp only [List.set_cons_zero,cntL]; simp only [List.getElem!_cons_zero] at h;omega
 | x :: xs, k + 1, y, h, h2 => by
  simp only [List.set_cons_succ,cntL]
  rw [cntL_set xs k y (by simpa using h) (by rw [h2]; simp only [List.getElem!_cons_succ])]
theorem cntL_rep (s:AL.Stmt):∀ k,cntL (List.replicate k s) = k * cntS s
 | 0 => by simp [cntL]
 | k + 1 => by simp only [List.replicate_succ,cntL,cntL_rep s k,Nat.succ_mul]; omega
theorem cntL_del:∀ (xs:List AL.Stmt) (k:Nat),cntL (xs.take k ++ xs.drop (k + 1)) ≤ cntL xs
 | [],k => by simp [cntL]
 | x :: xs,0 => by simp [cntL]
 | x :: xs,k + 1 => by have := cntL_del xs k;simp only [List.take_succ_cons,List.drop_succ_cons,List.cons_append,cntL]; omega
theorem bnd_pos {T:Nat → Option AV}{x:Operand}{dd:Nat}{k:IntKind}{m:Int}(hx:ev T x = some (.v (.int k m))) (h:0 ≤ m):bndA T (some x) dd = some m.toNat:=by
 simp only [bndA,hx]; rw [if_pos h]
section
variable {P : Program} {N : Nat} {Q : Exit → AS → Prop} {all : Array Oper} {rest : List Oper} {ts : List (Nat × AV)} {hs : List (Nat × Option (List AV))} {n : Nat} {z0 : Lo} {md : Md}
variable {d : Nat} {ty : TypeId} {pos : String} {af : Array Edge}
theorem rx_sliceOh {t el:TypeId}{x:Operand}{hi:Option Operand}{i o m e h:Nat}[ht:SlT P t el] [he:SzT P el e] (hx:ev (lk ts) x = some (.own i o m e))
  (hh : bndA (lk ts) hi m = some h) (hb : h ≤ m) (hN : Nat.blt d N = true) {md' : Md} [hmd : MdA md (rO x ++ (rB none ++ rB hi)) [.inl d] md'] (kk : RW P N all Q md' rest ⟨(d,.own i o h e) :: ts,hs,n,z0⟩) :
  RW P N all Q md (⟨some d,.slice t x none hi none,ty,pos,af,none⟩ :: rest) ⟨ts,hs,n,z0⟩ :=
 rx_slice (m := m) (l := 0) (h := h) hx rfl rfl hh (by simp [sSl,hb]) hN (md' := md') (hmd := hmd) kk
end
theorem sC_ownD {hs:List (Nat × Option (List AV))}{xs:List AL.Stmt}{i k n:Nat}(hH:lkH hs i = some (flat cStmt xs)) (hn:n = xs.length - k):sCells (lkH hs) 6 (kAV (.own i (0 + k * 6) n 6)) = some (n,flat cStmt (xs.drop k)):=by
 show ((lkH hs i).bind fun cs => if n * 6 ≤ (cs.drop (0 + k * 6)).length then some (n,(cs.drop (0 + k * 6)).take (n * 6)) else none) = _
 rw [hH,Option.bind_some,Nat.zero_add]
 have h1 : (flat cStmt xs).length = xs.length * 6 := flat_length cStmt xs
 have h3 : (flat cStmt xs).drop (k * 6) = flat cStmt (xs.drop k) := by
  have h4 : flat cStmt xs = flat cStmt (xs.take k) ++ flat cStmt (xs.drop k) := by rw [flat_append,List.take_append_drop]
  have h5 : (flat cStmt (xs.take k)).length = (xs.take k).length * 6 := flat_length cStmt _
  by_cases hk : k ≤ xs.length
  ·rw [h4,← show (flat cStmt (xs.take k)).length = k * 6 from by rw [h5,List.length_take]; congr 1;omega,List.drop_left]
  ·rw [List.drop_of_length_le (by omega),List.drop_of_length_le (by omega)]; rfl
 rw [h3]
 have h2 : (flat cStmt (xs.drop k)).length = (xs.length - k) * 6 := by rw [flat_length cStmt (e := 6),List.length_drop]
 rw [if_pos (by omega),List.take_of_length_le (by omega)]
theorem app_del {xs ys:List AL.Stmt}{k:Nat}(hk:k ≤ xs.length):((flat cStmt xs).drop 0).take (k * 6) ++ flat cStmt ys = flat cStmt (xs.take k ++ ys):=by
 rw [List.drop_zero,flat_take cStmt (e := 6),flat_append]
theorem mutate_c (bs:List UInt8) (p:Nat) (q:Prg) (hb:bs.length ≤ 2000) (hp:p ≤ 900000) (hs:cntL q.body ≤ 10000) (ht:q.types.length ≤ 10000):MC Tryz.prog 54 [.optr 0 0,aPrg q] [(0,some (cRd bs p))] 1 (fun x:Prg × Nat => cntL x.1.body ≤ 32 * cntL q.body ∧ x.1.types.length ≤ q.types.length + 1 ∧ x.2 ≤ p + 3) (fun x => aPrg x.1) (fun x => [(0,some (cRd bs x.2))]):=by
 have hlen := cntL_len q.body
 have h0 := pickF_bd bs p (q.body.length : Int)
 refine mc_start Tryz.func54 Tryz.ntmps54 ?_
 repeat' (first|(apply id_rw;(first|(apply rx_pick;rfl;rfl;(rfl);(apply pick_c <;> (first|assumption|omega));rfl;rfl)|(apply rx_numO;rfl;rfl;rfl;rfl;infer_instance;rfl;(rfl);assumption;omega;(decide);(decide);rfl;rfl)|(apply rx_copyOf;rfl;(apply copyOf_c <;> (omega));rfl;rfl)))|refine stpb ?_|(refine stp2 ?_ ?_ <;> intro hc hq <;> try (exfalso;omega))|refine stpd ?_|fail)
 ·refine rq_le (Le.frzC (j := 2) (i := 6) [] rfl rfl (by decide)) ?_
  refine rq_le (Le.frzC (j := 2) (i := 7) [.imm _ _] rfl rfl (by decide)) ?_
  refine rq_ret rfl ?_
  refine mc_ret ((⟨q.types,q.body⟩ : Prg),p) ?_ ?_ ⟨sE ?_,trivial⟩
  ·exact ⟨by dsimp only;omega,by dsimp only;omega,by dsimp only;omega⟩
  ·rfl
  ·rfl
 ·refine rq_le (Le.frzC (j := 2) (i := 6) [] rfl rfl (by decide)) ?_
  refine rq_le (Le.frzC (j := 2) (i := 7) [.imm _ _] rfl rfl (by decide)) ?_
  refine rq_ret rfl ?_
  refine mc_ret ((⟨q.types,q.body.set (pickF bs p (q.body.length : Int)).toNat (uOp q.body[(pickF bs p (q.body.length : Int)).toNat]! (numF bs (p + 1 + 1) [0,11,1,3,8]))⟩ : Prg),p + 1 + 1 + 1) ?_ ?_ ⟨sE ?_,trivial⟩
  ·refine ⟨?_,by dsimp only;omega,by dsimp only;omega⟩; dsimp only;rw [cntL_set q.body (pickF bs p (q.body.length : Int)).toNat _ (by omega) (by rw [cntS_uOp])]; omega
  ·show _ = AV.agg [_,AV.imm (List.length (q.body.set _ _)) _]; rw [List.length_set]; rfl
  ·rfl
 ·refine rq_le (Le.frzC (j := 2) (i := 6) [] rfl rfl (by decide)) ?_
  refine rq_le (Le.frzC (j := 2) (i := 7) [.imm _ _] rfl rfl (by decide)) ?_
  refine rq_ret rfl ?_
  refine mc_ret ((⟨q.types,q.body.set (pickF bs p (q.body.length : Int)).toNat (uX q.body[(pickF bs p (q.body.length : Int)).toNat]! (numF bs (p + 1 + 1) [6,-1,0,1]))⟩ : Prg),p + 1 + 1 + 1) ?_ ?_ ⟨sE ?_,trivial⟩
  ·refine ⟨?_,by dsimp only;omega,by dsimp only;omega⟩; dsimp only;rw [cntL_set q.body (pickF bs p (q.body.length : Int)).toNat _ (by omega) (by rw [cntS_uX])]; omega
  ·show _ = AV.agg [_,AV.imm (List.length (q.body.set _ _)) _]; rw [List.length_set]; rfl
  ·rfl
 ·refine rq_le (Le.frzC (j := 2) (i := 6) [] rfl rfl (by decide)) ?_
  refine rq_le (Le.frzC (j := 2) (i := 7) [.imm _ _] rfl rfl (by decide)) ?_
  refine rq_ret rfl ?_
  refine mc_ret ((⟨q.types,q.body.set (pickF bs p (q.body.length : Int)).toNat (uY q.body[(pickF bs p (q.body.length : Int)).toNat]! (numF bs (p + 1 + 1) [6,-1,0,1]))⟩ : Prg),p + 1 + 1 + 1) ?_ ?_ ⟨sE ?_,trivial⟩
  ·refine ⟨?_,by dsimp only;omega,by dsimp only;omega⟩; dsimp only;rw [cntL_set q.body (pickF bs p (q.body.length : Int)).toNat _ (by omega) (by rw [cntS_uY])]; omega
  ·show _ = AV.agg [_,AV.imm (List.length (q.body.set _ _)) _]; rw [List.length_set]; rfl
  ·rfl
 ·refine rq_le (Le.frzC (j := 2) (i := 6) [] rfl rfl (by decide)) ?_
  refine rq_le (Le.frzC (j := 2) (i := 7) [.imm _ _] rfl rfl (by decide)) ?_
  refine rq_ret rfl ?_
  refine mc_ret ((⟨q.types,q.body.set (pickF bs p (q.body.length : Int)).toNat (uN q.body[(pickF bs p (q.body.length : Int)).toNat]! (numF bs (p + 1 + 1) [10,-1,5]))⟩ : Prg),p + 1 + 1 + 1) ?_ ?_ ⟨sE ?_,trivial⟩
  ·refine ⟨?_,by dsimp only;omega,by dsimp only;omega⟩; dsimp only;rw [cntL_set q.body (pickF bs p (q.body.length : Int)).toNat _ (by omega) (by rw [cntS_uN])]; omega
  ·show _ = AV.agg [_,AV.imm (List.length (q.body.set _ _)) _]; rw [List.length_set]; rfl
  ·rfl
 ·refine rq_le (Le.frzC (j := 2) (i := 11) [] rfl rfl (by decide)) ?_
  refine rq_le (Le.frzC (j := 2) (i := 7) [.imm _ _] rfl rfl (by decide)) ?_
  refine rq_ret rfl ?_
  refine mc_ret ((⟨q.types ++ [numF bs (p + 1 + 1) [1,5,0,4]],q.body⟩ : Prg),p + 1 + 1 + 1) ?_ ?_ ⟨sE ?_,trivial⟩
  ·exact ⟨by dsimp only;omega,by simp,by dsimp only;omega⟩
  ·show _ = AV.agg [AV.imm (List.length (q.types ++ [_])) _,_]; rw [List.length_append]; rfl
  ·rfl
 ·refine aw_loopA (σ := Nat × List AL.Stmt × Nat) [4, 5] [6, 2, 0] (fun k => [(7, iv (k.1 : Int))]) (fun k => [(7, some (flat cStmt k.2.1)), (8, some [.own 6 0 q.types.length 1, .own 7 0 k.2.2 6])]) (fun k => k.1 ≤ 31 ∧ k.2.1 = q.body ++ List.replicate k.1 q.body[0]! ∧ k.2.2 = k.2.1.length) (fun k => 31 - k.1) (0, q.body, q.body.length) ⟨by omega, by simp, rfl⟩ ?_
  rintro ⟨k,xs,m⟩ ⟨hk,hxs,hm⟩
  dsimp only at hk hxs hm ⊢
  have hln : 0 < xs.length := by rw [hxs,List.length_append]; omega
  have hl2 : xs.length = q.body.length + k := by rw [hxs,List.length_append,List.length_replicate]
  repeat' (first|refine stpb ?_|(refine stp2 ?_ ?_ <;> intro hc hq <;> try (exfalso;omega))|refine stpd ?_|fail)
  ·(refine ex3 (k + 1, _, _) (Le.renA [(7, 10), (8, 8), (6, 6), (2, 2)]) ?_ ?_)
   ·dsimp only
    refine ⟨by omega,?_,by simp [hm]⟩
    have e0 : xs[Int.toNat 0]! = q.body[0]! := by
     show xs[0]! = _
     rw [hxs,getElem!_pos _ _ (by rw [List.length_append]; omega),List.getElem_append_left (by omega),getElem!_pos _ _ (by omega)]
    rw [e0,hxs,List.replicate_succ',List.append_assoc]
   ·dsimp only;omega
  ·have hc0 : cntS q.body[0]! ≤ cntL q.body := cntL_at q.body 0 (by omega)
   have hc1 : cntL xs = cntL q.body + k * cntS q.body[0]! := by rw [hxs,cntL_append,cntL_rep]
   have hc2 : k * cntS q.body[0]! ≤ 31 * cntL q.body := Nat.mul_le_mul hk hc0
   subst hm
   refine rq_le (Le.frzC (j := 2) (i := 6) [] rfl rfl (by decide)) ?_
   refine rq_le (Le.frzC (j := 2) (i := 7) [.imm _ _] rfl rfl (by decide)) ?_
   refine rq_ret rfl ?_
   refine mc_ret ((⟨q.types,xs⟩ : Prg),p + 1 + 1) ?_ ?_ ⟨sE ?_,trivial⟩
   ·exact ⟨by dsimp only;omega,by dsimp only;omega,by dsimp only;omega⟩
   ·rfl
   ·rfl
 ·have hK : (pickF bs p (q.body.length : Int) + 1).toNat = (pickF bs p (q.body.length : Int)).toNat + 1 := by omega
  repeat' (first|(apply id_rw;first|(apply rx_sliceOh;rfl;exact bnd_pos rfl (by omega);omega;rfl)|(apply rx_sliceOw;rfl;exact bnd_pos rfl (by omega);omega;rfl)|(apply rx_append;rfl;rfl;rfl;rfl;rfl;(rw [flat_length]; omega);exact sC_ownD rfl (by omega);omega;omega;exact app_del (by omega);rfl;rfl))|refine stpb ?_|fail)
  refine rq_le (Le.frzC (j := 2) (i := 6) [] rfl rfl (by decide)) ?_
  refine rq_le (Le.frzC (j := 2) (i := 9) [.imm _ _] rfl rfl (by decide)) ?_
  refine rq_ret rfl ?_
  refine mc_ret ((⟨q.types,q.body.take (pickF bs p (q.body.length : Int)).toNat ++ q.body.drop (pickF bs p (q.body.length : Int) + 1).toNat⟩ : Prg),p + 1 + 1) ?_ ?_ ⟨sE ?_,trivial⟩
  ·refine ⟨?_, by dsimp only; omega, by dsimp only; omega⟩
   dsimp only
   rw [hK]
   have := cntL_del q.body (pickF bs p (q.body.length : Int)).toNat
   omega
  ·show AV.agg [_, AV.imm _ _] = AV.agg [_, AV.imm (List.length (_ ++ _)) _]
   rw [List.length_append,List.length_take,List.length_drop,Nat.min_eq_left (by omega)]
  ·rfl
 ·refine rq_le (Le.frzC (j := 2) (i := 6) [] rfl rfl (by decide)) ?_
  refine rq_le (Le.frzC (j := 2) (i := 7) [.imm _ _] rfl rfl (by decide)) ?_
  refine rq_ret rfl ?_
  refine mc_ret (q,p + 1 + 1) ⟨by dsimp only;omega,by dsimp only;omega,by dsimp only;omega⟩ rfl ⟨sE ?_,trivial⟩
  ·rfl
def atF (s : ByteArray) (i : Int) (w : ByteArray) : Bool := decide (0 ≤ i) && (decide (i + w.size ≤ s.size) && ((s.extract i.toNat (i + w.size).toNat).toList == w.toList))
def chrF (lo hi : Int) (s : ByteArray) (i : Int) : Int := if i < 0 then -1 else if (s.size : Int) ≤ i then -1 else if ((s[i.toNat]!).toNat : Int) < lo then -1 else if hi < ((s[i.toNat]!).toNat : Int) then -1 else ((s[i.toNat]!).toNat : Int) - lo
theorem l1At_c (s:ByteArray) (i:Int) (w:ByteArray) (hs:s.size ≤ 1048576) (hw:w.size ≤ 1048576) (hi:i ≤ 1048576):PC Tryz.prog 210 [sv s,iv i,sv w] (fun r => r = bv (atF s i w)):=by
 refine pc_start Tryz.func210 Tryz.ntmps210 ?_
 repeat' (first|(apply id_rw;first|(apply rx_sbin;rfl;rfl;(rfl);rfl)|(apply rx_sliceS;rfl;exact bnd_pos rfl (by omega);exact bnd_pos rfl (by omega);omega;rfl))|refine stpb ?_|(refine stp3 ?_ ?_ <;> intro hg hq <;> try (exfalso;omega))|refine stpr ?_|fail)
 all_goals (refine ⟨?_,rfl⟩; simp only [oneOf,AV.v.injEq,Value.bool.injEq,Value.int.injEq,true_and])
 ·unfold atF
  rw [decide_eq_true (by omega),decide_eq_true (by omega)]; rfl
 ·unfold atF
  rw [decide_eq_true (p := 0 ≤ i) (by omega),decide_eq_false (by omega)]; rfl
 ·unfold atF
  rw [decide_eq_false (by omega)]; rfl
theorem l1Var_c (s:ByteArray) (i:Int) (hs:s.size ≤ 1048576):PC Tryz.prog 266 [sv s,iv i] (fun r => r = iv (chrF 97 122 s i)):=by
 have hb0 : ((s[i.toNat]!).toNat : Int) ≤ 255 := by have := (s[i.toNat]!).toNat_lt;omega
 refine pc_start Tryz.func266 Tryz.ntmps266 ?_
 repeat' (first|(apply id_rw;first|(apply rx_indexS;rfl;rfl;omega;rfl)|(apply rx_subU;rfl;rfl;omega;rfl))|refine stpb ?_|(refine stp2 ?_ ?_ <;> intro hc hq <;> try (exfalso;omega))|(refine stp3 ?_ ?_ <;> intro hg hq <;> try (exfalso;omega))|refine stpr ?_|fail)
 all_goals (refine ⟨?_,rfl⟩; simp only [oneOf,AV.v.injEq,Value.bool.injEq,Value.int.injEq,true_and])
 all_goals (unfold chrF;repeat' split)
 all_goals (first|rfl|omega)
theorem l1Digit_c (s:ByteArray) (i:Int) (hs:s.size ≤ 1048576):PC Tryz.prog 268 [sv s,iv i] (fun r => r = iv (chrF 48 57 s i)):=by
 have hb0 : ((s[i.toNat]!).toNat : Int) ≤ 255 := by have := (s[i.toNat]!).toNat_lt;omega
 refine pc_start Tryz.func268 Tryz.ntmps268 ?_
 repeat' (first|(apply id_rw;first|(apply rx_indexS;rfl;rfl;omega;rfl)|(apply rx_subU;rfl;rfl;omega;rfl))|refine stpb ?_|(refine stp2 ?_ ?_ <;> intro hc hq <;> try (exfalso;omega))|(refine stp3 ?_ ?_ <;> intro hg hq <;> try (exfalso;omega))|refine stpr ?_|fail)
 all_goals (refine ⟨?_,rfl⟩; simp only [oneOf,AV.v.injEq,Value.bool.injEq,Value.int.injEq,true_and])
 all_goals (unfold chrF;repeat' split)
 all_goals (first|rfl|omega)
def QP (s : ByteArray) (i : Int) (r : AV) : Prop := ∃ (x : AL.Stmt) (nx : Int),r = .tup [aStmt x,iv nx] ∧ ((nx = -1 ∧ (cntS x : Int) ≤ s.size + 1) ∨ (i < nx ∧ nx ≤ s.size + 3 ∧ (cntS x : Int) ≤ nx - i))
def QB (s : ByteArray) (i : Int) (r : AV) : Prop := ∃ (l : List AL.Stmt) (nx : Int),r = .tup [sl cStmt l,iv nx] ∧ ((nx = -1 ∧ l = []) ∨ (0 ≤ i ∧ i + 2 ≤ nx ∧ nx ≤ s.size ∧ (cntL l : Int) ≤ nx - i))
def QL (s : ByteArray) (i : Int) (r : AV) : Prop := ∃ (l : List AL.Stmt) (nx : Int),r = .tup [sl cStmt l,iv nx] ∧ ((nx = -1 ∧ l = []) ∨ (i ≤ nx ∧ nx ≤ s.size ∧ (cntL l : Int) ≤ nx - i))
theorem atF_bd {s w:ByteArray}{i:Int}(h:atF s i w = true):0 ≤ i ∧ i + w.size ≤ s.size:=by
 unfold atF at h;simp only [Bool.and_eq_true,decide_eq_true_eq] at h;exact ⟨h.1,h.2.1⟩
theorem qp0 {s:ByteArray}{i op x y n nx:Int}(h:nx = -1 ∨ (i < nx ∧ nx ≤ s.size + 3)):QP s i (.tup [.agg [iv op,iv x,iv y,iv n,.imm 0 [],.imm 0 []],iv nx]) :=
 ⟨.mk op x y n [] [],nx,rfl,by simp only [cntS,cntL]; omega⟩
theorem qp1 {s:ByteArray}{i op x y n nx:Int}{th:List AL.Stmt}(h:(nx = -1 ∧ (cntL th:Int) ≤ s.size) ∨ (i < nx ∧ nx ≤ s.size + 3 ∧ (cntL th:Int) + 1 ≤ nx - i)):QP s i (.tup [.agg [iv op,iv x,iv y,iv n,sl cStmt th,.imm 0 []],iv nx]) :=
 ⟨.mk op x y n th [],nx,rfl,by simp only [cntS,cntL]; omega⟩
theorem qp2 {s:ByteArray}{i op x y n nx:Int}{th el:List AL.Stmt}(h:(nx = -1 ∧ (cntL th:Int) + cntL el ≤ s.size) ∨ (i < nx ∧ nx ≤ s.size + 3 ∧ (cntL th:Int) + cntL el + 1 ≤ nx - i)):QP s i (.tup [.agg [iv op,iv x,iv y,iv n,sl cStmt th,sl cStmt el],iv nx]) :=
 ⟨.mk op x y n th el,nx,rfl,by simp only [cntS]; omega⟩
theorem QP.pur {s:ByteArray}{i:Int}{r:AV}(h:QP s i r):r.pur = true := by obtain ⟨x,nx,rfl,_⟩ := h;exact Pur.pf
theorem QB.pur {s:ByteArray}{i:Int}{r:AV}(h:QB s i r):r.pur = true := by obtain ⟨x,nx,rfl,_⟩ := h;exact Pur.pf
theorem QL.pur {s:ByteArray}{i:Int}{r:AV}(h:QL s i r):r.pur = true := by obtain ⟨x,nx,rfl,_⟩ := h;exact Pur.pf
theorem rq_q {P:Program}{s:AS}{res:Array ResultVar}{q:AV → Prop}{l:List AV}(hQ:∀ r,q r → r.pur = true) (hr:resL P (lk s.ts) (lkH s.hs) res.toList = some l) (h:q (oneOf l)):retQ P res (fun r _ => q r ∧ r.pur = true) .ret s := rq_ret hr ⟨h,hQ _ h⟩
theorem parse_c0 (s:ByteArray) (i dp:Int) (hs:s.size ≤ 100000) (hi0:0 ≤ i) (hi:i ≤ s.size) (hd0:0 ≤ dp) (hd:dp ≤ 10) (braces_ih:∀ j dj:Int,dj = dp - 1 → -1 ≤ j → j ≤ s.size + 10 → PC Tryz.prog 267 [sv s,iv j,iv dj] (QB s j)):PC Tryz.prog 211 [sv s,iv i,iv dp] (QP s i):=by
 have h1 : atF s i ⟨#[100,114,111,112,32]⟩ = true → i + 5 ≤ s.size := fun h => (atF_bd h).2
 have h2 : atF s i ⟨#[108,111,111,112,123]⟩ = true → i + 5 ≤ s.size := fun h => (atF_bd h).2
 have h3 : atF s i ⟨#[105,102,123]⟩ = true → i + 3 ≤ s.size := fun h => (atF_bd h).2
 have h4 : atF s i ⟨#[42]⟩ = true → i + 1 ≤ s.size := fun h => (atF_bd h).2
 have h5 : atF s (i + 1) ⟨#[61]⟩ = true → i + 1 + 1 ≤ s.size := fun h => (atF_bd h).2
 have h6 : atF s (i + 2) ⟨#[98,111,120,32]⟩ = true → i + 2 + 4 ≤ s.size := fun h => (atF_bd h).2
 have h7 : atF s (i + 2) ⟨#[38,109,117,116,32]⟩ = true → i + 2 + 5 ≤ s.size := fun h => (atF_bd h).2
 refine pc_start Tryz.func211 Tryz.ntmps211 ?_
 repeat' (first|(apply id_rw;(first|(apply rx_callE (k := 210);rfl;(apply l1At_c <;> (first|omega|decide));(rfl);rfl)|(apply rx_callE (k := 266);rfl;(apply l1Var_c <;> (omega));(rfl);rfl)|(apply rx_call (k := 267);rfl;(apply braces_ih <;> (omega));(rfl);rfl;(rintro _ ⟨l,nx,rfl,hql⟩ _))|(apply rx_callE (k := 268);rfl;(apply l1Digit_c <;> (omega));(rfl);rfl)))|refine stpb ?_|(refine stp2 ?_ ?_ <;> intro hc hq <;> try (exfalso;omega))|(refine stp3 ?_ ?_ <;> intro hg hq <;> try (exfalso;omega))|fail)
 all_goals refine rq_q (fun _ => QP.pur) (l := [.agg [_,_,_,_,_,_],_]) rfl ?_
 all_goals (try have b1 := h1 (by assumption))
 all_goals (try have b2 := h2 (by assumption))
 all_goals (try have b3 := h3 (by assumption))
 all_goals (try have b4 := h4 (by assumption))
 all_goals (try have b5 := h5 (by assumption))
 all_goals (try have b6 := h6 (by assumption))
 all_goals (try have b7 := h7 (by assumption))
 all_goals clear h1 h2 h3 h4 h5 h6 h7
 all_goals first
  | (refine qp0 ?_; omega)
  | skip
 ·refine qp1 (th := l) ?_
  rcases hql with ⟨h8,h9⟩|hql
  ·rw [h9]; simp only [cntL]; omega
  ·omega
 ·rename_i l1 nx1 hql1 hpu1 hpu2
  refine qp2 (th := l1) (el := l) ?_
  rcases hql1 with ⟨h8,h9⟩|hql1 <;> rcases hql with ⟨h10,h11⟩|hql
  ·rw [h9,h11]; simp only [cntL]; omega
  ·omega
  ·rw [h11]; simp only [cntL]; omega
  ·omega
theorem braces_c0 (s:ByteArray) (i dp:Int) (hs:s.size ≤ 100000) (hi0:-1 ≤ i) (hi:i ≤ s.size + 10) (hd0:-1 ≤ dp) (hd:dp ≤ 10) (list_ih:∀ j dj:Int,0 ≤ dp → dj = dp → 0 ≤ j → j ≤ s.size → PC Tryz.prog 145 [sv s,iv j,iv dj] (QL s j)):PC Tryz.prog 267 [sv s,iv i,iv dp] (QB s i):=by
 have h1 : atF s i ⟨#[123]⟩ = true → 0 ≤ i ∧ i + 1 ≤ s.size := fun h => atF_bd h
 refine pc_start Tryz.func267 Tryz.ntmps267 ?_
 repeat' (first|(apply id_rw;(apply rx_callE (k := 210);rfl;(apply l1At_c <;> (first|omega|decide));(rfl);rfl))|refine stpb ?_|(refine stp2 ?_ ?_ <;> intro hc hq <;> try (exfalso;omega))|(refine stp3 ?_ ?_ <;> intro hg hq <;> try (exfalso;omega))|fail)
 ·refine rq_le (Le.nilImm (d := 6) rfl) ?_
  exact rq_q (fun _ => QB.pur) (l := [.imm 0 [],iv (-1)]) rfl ⟨[],-1,rfl,.inl ⟨rfl,rfl⟩⟩
 ·have b1 := h1 (by assumption)
  repeat' (first|(apply id_rw;(first|(apply rx_call (k := 145);rfl;(apply list_ih <;> (first|assumption|omega));(rfl);rfl;(rintro _ ⟨l,nx,rfl,hql⟩ _))|(apply rx_callE (k := 210);rfl;(apply l1At_c <;> (first|omega|decide));(rfl);rfl)))|refine stpb ?_|(refine stp2 ?_ ?_ <;> intro hc hq <;> try (exfalso;omega))|fail)
  ·refine rq_le (Le.nilImm (d := 6) rfl) ?_
   exact rq_q (fun _ => QB.pur) (l := [.imm 0 [],iv (-1)]) rfl ⟨[],-1,rfl,.inl ⟨rfl,rfl⟩⟩
  ·have b2 : 0 ≤ nx ∧ nx + 1 ≤ s.size := atF_bd (w := ⟨#[125]⟩) (by assumption)
   exact rq_q (fun _ => QB.pur) (l := [sl cStmt l,iv (nx + 1)]) rfl ⟨l,nx + 1,rfl,by omega⟩
 ·refine rq_le (Le.nilImm (d := 6) rfl) ?_
  exact rq_q (fun _ => QB.pur) (l := [.imm 0 [],iv (-1)]) rfl ⟨[],-1,rfl,.inl ⟨rfl,rfl⟩⟩
theorem list_c0 (s:ByteArray) (i dp:Int) (hs:s.size ≤ 100000) (hi0:0 ≤ i) (hi:i ≤ s.size) (hd0:0 ≤ dp) (hd:dp ≤ 10) (parse_ih:∀ j dj:Int,dj = dp → 0 ≤ j → j ≤ s.size → PC Tryz.prog 211 [sv s,iv j,iv dj] (QP s j)):PC Tryz.prog 145 [sv s,iv i,iv dp] (QL s i):=by
 refine pc_start Tryz.func145 Tryz.ntmps145 ?_
 repeat' (first|(apply id_rw;(apply rx_callE (k := 210);rfl;(apply l1At_c <;> (first|omega|decide));(rfl);rfl))|refine stpb ?_|(refine stp2 ?_ ?_ <;> intro hc hq <;> try (exfalso;omega))|(refine stp3 ?_ ?_ <;> intro hg hq <;> try (exfalso;omega))|fail)
 rotate_left 1
 ·refine aw_loopA (σ := Int × List AL.Stmt × Nat) [0, 2] [] (fun k => [(1, iv k.1), (8, .own 0 0 k.2.2 6)]) (fun k => [(0, some (flat cStmt k.2.1))]) (fun k => i ≤ k.1 ∧ k.1 ≤ s.size ∧ k.2.2 = k.2.1.length ∧ (cntL k.2.1 : Int) ≤ k.1 - i) (fun k => (s.size - k.1).toNat) (i, [], 0) ⟨by omega, by omega, rfl, by simp [cntL]⟩ ?_
  rintro ⟨k,xs,m⟩ ⟨hk0,hk,hm,hc⟩
  dsimp only at hk0 hk hm hc ⊢
  have hln := cntL_len xs
  repeat' (first|(apply id_rw;first|(apply rx_buildSliceI (t := _);rfl;rfl;rfl;(exact (rfl:_=some [_,_,_,_,_,_]));rfl;rfl)|(first|(apply rx_callE (k := 210);rfl;(apply l1At_c <;> (first|omega|decide));(rfl);rfl)|(apply rx_call (k := 211);rfl;(apply parse_ih <;> (first|assumption|omega));(rfl);rfl;(rintro _ ⟨x,nx,rfl,hqx⟩ _))))|refine stpb ?_|(refine stp2 ?_ ?_ <;> intro hc hq <;> try (exfalso;omega))|(refine stp3 ?_ ?_ <;> intro hg hq <;> try (exfalso;omega))|fail)
  ·refine rq_le (Le.nilImm (d := 6) rfl) ?_
   exact rq_q (fun _ => QL.pur) (l := [.imm 0 [],iv (-1)]) rfl ⟨[],-1,rfl,.inl ⟨rfl,rfl⟩⟩
  ·refine rq_le (Le.frzD (d := 6) (i := 3) rfl rfl) ?_
   refine rq_q (fun _ => QL.pur) (l := [.imm (m + 1) (flat cStmt (xs ++ [x])),iv nx]) rfl ⟨xs ++ [x],nx,?_,?_⟩
   ·show AV.tup [AV.imm (m + 1) _, _] = AV.tup [AV.imm (List.length (xs ++ [x])) _, _]
    rw [List.length_append,hm]; rfl
   ·rw [cntL_append]; simp only [cntL]; omega
  ·have b2 : 0 ≤ nx ∧ nx + 1 ≤ s.size := atF_bd (w := ⟨#[59]⟩) (by assumption)
   (refine ex3 (nx + 1,xs ++ [x],m + 1) (Le.renA [(0,3)]) ?_ ?_)
   ·dsimp only
    refine ⟨by omega,by omega,by simp [hm],?_⟩
    rw [cntL_append]; simp only [cntL]; omega
   ·dsimp only;omega
  ·refine rq_le (Le.nilImm (d := 6) rfl) ?_
   exact rq_q (fun _ => QL.pur) (l := [.imm 0 [],iv (-1)]) rfl ⟨[],-1,rfl,.inl ⟨rfl,rfl⟩⟩
 ·refine rq_le (Le.frzD (d := 6) (i := 0) rfl rfl) ?_
  exact rq_q (fun _ => QL.pur) (l := [.imm 0 [],iv i]) rfl ⟨[],i,rfl,by simp only [cntL]; omega⟩
 ·refine rq_le (Le.frzD (d := 6) (i := 0) rfl rfl) ?_
  exact rq_q (fun _ => QL.pur) (l := [.imm 0 [],iv i]) rfl ⟨[],i,rfl,by simp only [cntL]; omega⟩
theorem list_all (s:ByteArray) (hs:s.size ≤ 100000):∀ n:Nat,n ≤ 10 → (∀ j:Int,-1 ≤ j → j ≤ s.size + 10 → PC Tryz.prog 267 [sv s,iv j,iv ((n:Int) - 1)] (QB s j)) ∧ (∀ j:Int,0 ≤ j → j ≤ s.size → PC Tryz.prog 145 [sv s,iv j,iv (n:Int)] (QL s j))
 | 0, hn => by
  have hB : ∀ j : Int, -1 ≤ j → j ≤ s.size + 10 → PC Tryz.prog 267 [sv s, iv j, iv (((0 : Nat) : Int) - 1)] (QB s j) :=
   fun j h0 h1 => braces_c0 s j (((0 : Nat) : Int) - 1) hs h0 h1 (by omega) (by omega) (fun _ _ h => by omega)
  have hP : ∀ j : Int, 0 ≤ j → j ≤ s.size → PC Tryz.prog 211 [sv s, iv j, iv ((0 : Nat) : Int)] (QP s j) :=
   fun j h0 h1 => parse_c0 s j _ hs h0 h1 (by omega) (by omega) (fun k dj h2 h3 h4 => by subst h2;exact hB k h3 h4)
  exact ⟨hB,fun j h0 h1 => list_c0 s j _ hs h0 h1 (by omega) (by omega) (fun k dj h2 h3 h4 => by subst h2;exact hP k h3 h4)⟩
 | n + 1, hn => by
  have ih := list_all s hs n (by omega)
  have e : (((n + 1 : Nat) : Int) - 1) = (n : Int) := by omega
  have hB : ∀ j : Int, -1 ≤ j → j ≤ s.size + 10 → PC Tryz.prog 267 [sv s, iv j, iv (((n + 1 : Nat) : Int) - 1)] (QB s j) :=
   fun j h0 h1 => braces_c0 s j _ hs h0 h1 (by omega) (by omega) (fun k dj h2 h3 h4 h5 => by rw [e] at h3;subst h3;exact ih.2 k h4 h5)
  have hP : ∀ j : Int, 0 ≤ j → j ≤ s.size → PC Tryz.prog 211 [sv s, iv j, iv ((n + 1 : Nat) : Int)] (QP s j) :=
   fun j h0 h1 => parse_c0 s j _ hs h0 h1 (by omega) (by omega) (fun k dj h2 h3 h4 => by subst h2;exact hB k h3 h4)
  exact ⟨hB,fun j h0 h1 => list_c0 s j _ hs h0 h1 (by omega) (by omega) (fun k dj h2 h3 h4 => by subst h2;exact hP k h3 h4)⟩
theorem list4_c (s:ByteArray) (i:Int) (hs:s.size ≤ 100000) (hi0:0 ≤ i) (hi:i ≤ s.size):PC Tryz.prog 145 [sv s,iv i,iv 4] (QL s i) := (list_all s hs 4 (by omega)).2 i hi0 hi
theorem l1Letter_c (v:Int) (h0:0 ≤ v) (h1:v ≤ 25):PC Tryz.prog 206 [iv v] (fun r => r = sv (letF v)):=by
 refine pc_start Tryz.func206 Tryz.ntmps206 ?_
 repeat' (first|(apply id_rw;first|(apply rx_addU;rfl;rfl;omega;rfl)|(apply rx_b2s (ns := [_]);rfl;rfl;rfl)|(apply rx_convU;rfl;omega;rfl))|refine stpb ?_|refine stpr ?_|fail)
 exact ⟨rfl,rfl⟩
theorem l17Dec_c (n:Int) (h0:0 ≤ n) (h1:n ≤ 9):PC Tryz.prog 207 [iv n] (fun r => r = sv (decF n)):=by
 refine pc_start Tryz.func207 Tryz.ntmps207 ?_
 repeat' (first|refine stpb ?_|(refine stp2 ?_ ?_ <;> intro hc hq <;> try (exfalso;omega))|fail)
 refine aw_loopA (σ := Unit) [0,3] [] (fun u => []) (fun u => []) (fun u => True) (fun u => 0) () trivial ?_
 rintro u _
 repeat' (first|(apply id_rw;first|(apply rx_sbin;rfl;rfl;(rfl);rfl)|(apply rx_b2s (ns := [_]);rfl;rfl;rfl)|(apply rx_convU;rfl;omega;rfl))|refine stpb ?_|(refine stp2 ?_ ?_ <;> intro hc hq <;> try (exfalso;omega))|refine stpr ?_|fail)
 exact ⟨rfl,rfl⟩
theorem text_c0 (s:AL.Stmt) (hc:cntS s ≤ 10000) (hop:(s.op = 9 ∨ s.op = 10) ∨ (1 ≤ s.op ∧ s.op ≤ 8 ∧ 0 ≤ s.x ∧ s.x ≤ 5 ∧ 0 ≤ s.y ∧ s.y ≤ 5 ∧ (s.op = 1 ∨ s.op = 2 → 0 ≤ s.n ∧ s.n ≤ 9)))
  (hth : s.op = 9 ∨ s.op = 10 → PC Tryz.prog 92 [sl cStmt s.th] (fun r => r = sv (textL s.th))) (hel : s.op = 9 → PC Tryz.prog 92 [sl cStmt s.el] (fun r => r = sv (textL s.el))) : PC Tryz.prog 141 [aStmt s] (fun r => r = sv (textS s)) := by
 have k1 := textL_size s.th
 have k2 := textL_size s.el
 have k3 := cntS_def s
 refine pc_start Tryz.func141 Tryz.ntmps141 ?_
 repeat' (first|(apply id_rw;first|(apply rx_sbin;rfl;rfl;(first|rfl|exact sadd_ok (by (simp only [ByteArray.size_append,bsz_lit,List.length_cons,List.length_nil,letF_size,decF_size,bytF_size] <;> omega)));rfl)|(first|(apply rx_callE (k := 92);rfl;(first|(apply hth;omega)|(apply hel;omega));exact Pur.pf;rfl)|(apply rx_callE (k := 206);rfl;(apply l1Letter_c <;> (omega));(rfl);rfl)|(apply rx_callE (k := 207);rfl;(apply l17Dec_c <;> (omega));(rfl);rfl)))|refine stpb ?_|(refine stp2 ?_ ?_ <;> intro hc hq <;> try (exfalso;omega))|refine stpd ?_|refine stpr ?_|fail)
 all_goals (refine ⟨?_,rfl⟩; rw [textS_def]; repeat' split)
 all_goals (first|rfl|omega)
theorem textL_c0 (l:List AL.Stmt) (hc:cntL l ≤ 10000) (text_ih:∀ k,k < l.length → PC Tryz.prog 141 [aStmt l[k]!] (fun r => r = sv (textS l[k]!))):PC Tryz.prog 92 [sl cStmt l] (fun r => r = sv (textL l)):=by
 have hlen := cntL_len l
 refine pc_start Tryz.func92 Tryz.ntmps92 ?_
 repeat' (first|refine stpb ?_|fail)
 refine aw_loopA (σ := Nat × ByteArray) [0] [] (fun k => [(4,iv (k.1 : Int)),(3,sv k.2)]) (fun k => []) (fun k => k.1 ≤ l.length ∧ k.2 = textL (l.take k.1)) (fun k => l.length - k.1) (0,⟨#[]⟩) ⟨by omega,rfl⟩ ?_
 rintro ⟨k,t⟩ ⟨hk,ht⟩
 dsimp only at hk ht ⊢
 have k1 := textL_size (l.take k)
 have k2 := textS_size l[k]!
 have hck := cntL_at l k
 have hct : cntL (l.take k) ≤ cntL l := by have := cntL_append (l.take k) (l.drop k);rw [List.take_append_drop] at this;omega
 have k3 : t.size = (textL (l.take k)).size := by rw [ht]
 repeat' (first|(apply id_rw;first|(apply rx_sbin;rfl;rfl;(exact sadd_ok (by (first|omega|(simp only [ByteArray.size_append,bsz_lit,List.length_cons,List.length_nil,letF_size,decF_size,bytF_size] <;> omega))));rfl)|(apply rx_callE (k := 141);rfl;(apply text_ih <;> (omega));exact Pur.pf;rfl))|refine stpb ?_|(refine stp2 ?_ ?_ <;> intro hc hq <;> try (exfalso;omega))|refine stpr ?_|fail)
 ·(refine ex3 (k + 1, _) (Le.renA []) ?_ ?_)
  ·exact ⟨by dsimp only;omega,by dsimp only;rw [textL_succ l k (by omega),joinF,if_pos (by omega),ht]⟩
  ·dsimp only;omega
 ·(refine ex3 (k + 1, _) (Le.renA []) ?_ ?_)
  ·exact ⟨by dsimp only;omega,by dsimp only;rw [textL_succ l k (by omega),joinF,if_neg (by omega),ht]⟩
  ·dsimp only;omega
 ·have hke : k = l.length := by omega
  refine ⟨?_,rfl⟩
  rw [ht,hke,List.take_length]; rfl
theorem text_all (ts:List Int) (hts:typesOk ts = true):∀ m:Nat,m ≤ 10000 → ∀ l d,cntL l ≤ m → okL ts d l = true → PC Tryz.prog 92 [sl cStmt l] (fun r => r = sv (textL l)):=by
 intro m
 induction m with
 | zero =>
  intro hm l d hc ho
  have := cntL_len l
  exact textL_c0 l (by omega) (fun k hk => by omega)
 | succ m ih =>
  intro hm l d hc ho
  refine textL_c0 l (by omega) (fun k hk => ?_)
  have hck := cntL_at l k hk
  have hct := cnt_th l[k]!
  have hs : okS ts d l[k]! = true := by rw [okL_eq,all_iff] at ho;exact ho k hk
  rw [okS_def] at hs
  by_cases h9 : l[k]!.op ≠ 9 ∧ l[k]!.op ≠ 10
  ·rw [if_pos h9] at hs
   simp only [Bool.and_eq_true] at hs
   exact text_c0 _ (by omega) (.inr (simple_bd hts hs.2)) (fun h => by omega) (fun h => by omega)
  ·rw [if_neg h9] at hs
   cases d with
   | zero => cases hs
   | succ d =>
    simp only [Bool.and_eq_true] at hs
    exact text_c0 _ (by omega) (.inl (by omega)) (fun h => ih (by omega) _ d (by omega) hs.1.2) (fun h => ih (by omega) _ d (by omega) hs.2)
theorem l1List_c (ts:List Int) (d:Nat) (l:List AL.Stmt) (hts:typesOk ts = true) (hc:cntL l ≤ 10000) (ho:okL ts d l = true):PC Tryz.prog 92 [sl cStmt l] (fun r => r = sv (textL l)) := text_all ts hts _ hc l d (Nat.le_refl _) ho
end Go.Proofs.YtjnhlgpbojggnaaGreatDoor
