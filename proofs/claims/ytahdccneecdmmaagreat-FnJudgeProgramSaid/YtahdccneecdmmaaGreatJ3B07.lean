/-
 A part of the proofs over this program: rules and contracts of its functions (the contracts).
-/
import Derived.Test.YtahdccneecdmmaaGreatJ3B06
import Derived.Test.YtahdccneecdmmaaGreatRows
import Derived.WalkKit
import Derived.ProofKit
import Derived.OpenShut
import Derived.Carry
import Derived.ChangeSlices
set_option linter.unusedVariables false
set_option linter.unusedSimpArgs false
set_option maxHeartbeats 8000000
set_option maxRecDepth 4000
attribute [local irreducible] Go.AL.RW Go.AL.AW Go.AL.Stop
namespace Go.Proofs.YtahdccneecdmmaaGreat
open Go.AL Go.RowKit
theorem xL (p:Prg) (l:Int) (hl:p.types.length ≤ 1000000) (hs:aT p.body ≤ 1000000):PC Tryz.prog 168 [b8 p,iv l] (fun r => r = .tup (if s8 p l = true then [iv (C0 p l.toNat (2 ^ l.toNat)),iv ((2 ^ l.toNat:Nat):Int)] else [iv 0,iv 0])):=by
 have hw := Jh p l hl hs
 have harg : RnL (([1] : List Nat)[·]?) [b8 p,iv l,.clos (.func 221) [] [.optr 0 0]] [b8 p,iv l,.clos (.func 221) [] [.optr 1 0]] := RnL.cons (RnV.purI inferInstance) (RnL.cons (RnV.purI inferInstance) (RnL.cons (RnV.clos .nil (RnL.cons (RnV.optr rfl) .nil)) .nil))
 by_cases h : s8 p l = true
 ·obtain ⟨hv, h0, h1⟩ := pJ.1 h
  rw [h,if_pos rfl] at hw
  rw [h,if_pos rfl]
  obtain ⟨L,rfl⟩ := Int.eq_ofNat_of_zero_le h0
  have hp : 2 ^ L ≤ 2 ^ 6 := Nat.pow_le_pow_right (by decide) (by omega)
  rw [Int.toNat_natCast] at *
  refine aC Tryz.func168 Tryz.ntmps168 ?_
  repeat' (first|refine aE ?_|fail)
  refine rR (k := 220) (avs := [b8 p,iv (L : Int),.clos (.func 221) [] [.optr 1 0]]) (rr' := bv true) [1] 1 [(1,some [iv (C0 p L (2 ^ L) : Int)])] hw rfl rfl ⟨⟨_,_,rfl,rfl,RnL.purI inferInstance⟩,trivial⟩ rfl harg rfl (RnV.purI inferInstance) rfl ⟨⟨0,_,rfl,rfl,RnL.purI inferInstance⟩,trivial⟩ rfl ?_
  repeat' (first|(apply aF;(apply g6;rfl;rfl;infer_instance;omega;rfl;(case' kk => intro hsm)))|refine aE ?_|refine bQ ?_|fail)
  exact aD (l := [iv _,iv _]) rfl ⟨rfl,rfl⟩
 ·have h2 : s8 p l = false := by simpa using h
  rw [h2,if_neg (by decide)] at hw
  rw [if_neg h]
  refine aC Tryz.func168 Tryz.ntmps168 ?_
  repeat' (first|refine aE ?_|fail)
  refine rR (k := 220) (avs := [b8 p,iv l,.clos (.func 221) [] [.optr 1 0]]) (rr' := bv false) [1] 1 [(1,some [iv 0])] hw rfl rfl ⟨⟨_,_,rfl,rfl,RnL.purI inferInstance⟩,trivial⟩ rfl harg rfl (RnV.purI inferInstance) rfl ⟨⟨0,_,rfl,rfl,RnL.purI inferInstance⟩,trivial⟩ rfl ?_
  repeat' (first|refine aE ?_|fail)
  exact aD (l := [iv 0,iv 0]) rfl ⟨rfl,rfl⟩
def Qx (p : Prg) (l : Int) : Int := if s8 p l = true then (C0 p l.toNat (2 ^ l.toNat) : Int) else 0
def N0 (p : Prg) (l : Int) : Int := if s8 p l = true then ((2 ^ l.toNat : Nat) : Int) else 0
theorem Ri (p:Prg) (l:Int) (hl:p.types.length ≤ 1000000) (hs:aT p.body ≤ 1000000):PC Tryz.prog 168 [b8 p,iv l] (fun r => r = .tup [iv (Qx p l),iv (N0 p l)]):=by
 have h := xL p l hl hs
 unfold Qx N0
 split
 ·rename_i h2;rw [if_pos h2] at h;exact h
 ·rename_i h2;rw [if_neg h2] at h;exact h
theorem OE (p:Prg) (l:Int):0 ≤ N0 p l ∧ N0 p l ≤ 64:=by
 unfold N0
 split
 ·rename_i h
  obtain ⟨_,h0,h1⟩ := pJ.1 h
  have hp : 2 ^ l.toNat ≤ 2 ^ 6 := Nat.pow_le_pow_right (by decide) (by omega)
  have h64 : (2 ^ 6 : Nat) = 64 := rfl
  rw [h64] at hp
  exact ⟨Int.natCast_nonneg _,by exact_mod_cast hp⟩
 ·omega
theorem FO {p:Prg}{cs:List Int}{n:Int}{L:List Iss}(hL:bD p = true → ∃ f:Flows p.types (aB p),L = f.iss) (ha:(bD p && L.isEmpty) = true):CX p cs n = 0 ∨ CX p cs n = 1 ∨ (CX p cs n = 5 ∧ (n < 0 ∨ 150 < n)):=by
 rw [Bool.and_eq_true] at ha
 obtain ⟨f,e⟩ := hL ha.1
 have h0 : f.iss = [] := by rw [← e]; exact List.isEmpty_iff.1 ha.2
 unfold CX
 by_cases h : Bz p n = true
 ·obtain ⟨hv, h1, h2⟩ := Bv.1 h
  rw [if_pos h]
  rcases G1 (WG.of_valid hv) (WA.of_valid hv) f cs n.toNat (by omega) h0 with q|q
  ·exact .inl q
  ·exact .inr (.inl q)
 ·rw [if_neg h]
  refine .inr (.inr ⟨rfl,?_⟩)
  apply Classical.byContradiction;intro q
  exact h (Bv.2 ⟨ha.1,by omega,by omega⟩)
def Be (p : Prg) (l : Int) : Option Nat := if s8 p l = true then (List.range (2 ^ l.toNat)).find? (oI p l.toNat) else none
def QV (p : Prg) (l : Int) : List Int := match Be p l with | some n => xQ n l.toNat | none => []
theorem MX {P:Nat → Bool}{k T:Nat}(hk:k < T) (h:P k = true) (hb:∀ j,j < k → P j = false):(List.range T).find? P = some k:=by
 rw [List.find?_range_eq_some]
 exact ⟨h,List.mem_range.2 hk,fun j hj => by rw [hb j hj]; rfl⟩
theorem FD {P:Nat → Bool}{T:Nat}(hb:∀ j,j < T → P j = false):(List.range T).find? P = none:=by
 rw [List.find?_eq_none]; intro x hx;rw [hb x (List.mem_range.1 hx)]; decide
theorem xE (p:Prg) (l:Int) (hl:p.types.length ≤ 1000000) (hs:aT p.body ≤ 1000000):PC Tryz.prog 177 [b8 p,iv l] (fun r => r = .tup [sl cI (QV p l),bv (Be p l).isSome]):=by
 have hr := yS p l hl hs
 by_cases h : s8 p l = true
 ·obtain ⟨hv, h0, h1⟩ := pJ.1 h
  rw [h] at hr
  obtain ⟨L,rfl⟩ := Int.eq_ofNat_of_zero_le h0
  have e : Be p (L : Int) = (List.range (2 ^ L)).find? (oI p L) := by unfold Be;rw [if_pos h,Int.toNat_natCast]
  have e2 : QV p (L : Int) = match (List.range (2 ^ L)).find? (oI p L) with|some n => xQ n L|none => [] := by unfold QV;rw [e,Int.toNat_natCast]
  rw [e,e2]
  have hru := HH L (by omega)
  have hp : 2 ^ L ≤ 2 ^ 6 := Nat.pow_le_pow_right (by decide) (by omega)
  generalize hT : 2 ^ L = T at *
  refine aC Tryz.func177 Tryz.ntmps177 ?_
  repeat' (first|(apply aF;(apply aA (k := 178);rfl;exact hr;exact Pur.pf;rfl))|refine aE ?_|fail)
  refine aH (σ := Nat) [1,2] [0] (fun k => [(6,iv (k : Int))]) (fun k => []) (fun k => k ≤ T ∧ ∀ j,j < k → oI p L j = false) (fun k => T - k) (0) ⟨Nat.zero_le _,fun j hj => by omega⟩ ?_
  rintro k ⟨hk,hb⟩
  have hch := CL k L (by omega) (by omega)
  have hwr := G2 p (xQ k L) hl hs (by rw [tY]; omega)
  change PC _ _ _ (fun r => r = .tup [bv (oI p L k),_]) at hwr
  repeat' (first|(apply aF;first|(apply aA (k := 229);rfl;exact hch;(rfl);rfl)|(apply aA (k := 228);rfl;exact hwr;exact Pur.pf;rfl)|(apply aA (k := 227);rfl;exact hru;(rfl);rfl)|(apply aJ (t := _);rfl;rfl;rfl;(rfl);rfl;rfl))|refine aE ?_|(refine aK ?_ ?_ <;> intro hc hq <;> try (exfalso;omega))|refine bQ ?_|fail)
  ·rw [MX (by omega) (by assumption) hb]
   exact aD (l := [sl cI (xQ k L),bv true]) rfl ⟨rfl,Pur.pf⟩
  ·(refine bE (k + 1) (Le.renA [(0, 0)]) ?_ ?_)
   ·refine ⟨by omega, fun j hj => ?_⟩
    by_cases q : j = k
    ·subst q;assumption
    ·exact hb j (by omega)
   ·omega
  ·obtain rfl : k = T := by omega
   rw [FD hb]
   exact aD (l := [.imm 0 [],bv false]) rfl ⟨rfl,rfl⟩
 ·have h2 : s8 p l = false := by simpa using h
  rw [h2] at hr
  have e : Be p l = none := by unfold Be;rw [if_neg h]
  have e2 : QV p l = [] := by unfold QV;rw [e]
  rw [e,e2]
  refine aC Tryz.func177 Tryz.ntmps177 ?_
  repeat' (first|(apply aF;first|(apply aA (k := 178);rfl;exact hr;exact Pur.pf;rfl)|(apply aJ (t := _);rfl;rfl;rfl;(rfl);rfl;rfl))|refine aE ?_|fail)
  exact aD (l := [.imm 0 [],bv false]) rfl ⟨rfl,rfl⟩
theorem MA (p:Prg) (l:Int) (hl:p.types.length ≤ 1000000) (hs:aT p.body ≤ 1000000):PC Tryz.prog 99 [b8 p,iv l] (fun r => r = bv (s8 p l && (Be p l).isNone)):=by
 have h1 := xE p l hl hs
 have h2 := yS p l hl hs
 have e : (Be p l).isNone = !(Be p l).isSome := by cases Be p l <;> rfl
 rw [e]
 generalize (Be p l).isSome = b at *
 refine aC Tryz.func99 Tryz.ntmps99 ?_
 repeat' (first|(apply aF;first|(apply aA (k := 177);rfl;exact h1;exact Pur.pf;rfl)|(apply aA (k := 178);rfl;exact h2;exact Pur.pf;rfl))|refine aE ?_|(refine bS ?_ ?_ <;> intro hg hq <;> try (exfalso;omega))|fail)
 all_goals (refine aD rfl ⟨?_,rfl⟩; simp only [aO]; simp_all)
theorem Nq (p:Prg) (l:Int):(decide (0 < N0 p l) && decide (Qx p l = 0)) = (s8 p l && (Be p l).isNone):=by
 unfold N0 Qx Be
 by_cases h : s8 p l = true
 ·rw [if_pos h, if_pos h, if_pos h, h]
  have hp : 0 < 2 ^ l.toNat := Nat.pow_pos (by decide)
  rw [decide_eq_true (by omega : (0 : Int) < ((2 ^ l.toNat : Nat) : Int)),Bool.true_and,Bool.true_and,Bool.eq_iff_iff,decide_eq_true_eq,Option.isNone_iff_eq_none,List.find?_eq_none]
  unfold C0
  constructor
  ·intro q x hx hb
   have : (List.range (2 ^ l.toNat)).filter (oI p l.toNat) = [] := List.length_eq_zero_iff.1 (by omega)
   have hm : x ∈ (List.range (2 ^ l.toNat)).filter (oI p l.toNat) := List.mem_filter.2 ⟨hx,hb⟩
   rw [this] at hm;cases hm
  ·intro q
   have : (List.range (2 ^ l.toNat)).filter (oI p l.toNat) = [] := List.filter_eq_nil_iff.2 q
   rw [this]; rfl
 ·rw [if_neg h, if_neg h, if_neg h]
  have h2 : s8 p l = false := by simpa using h
  rw [h2]; rfl
theorem Lw (p:Prg) (l:Int) (hl:p.types.length ≤ 1000000) (hs:aT p.body ≤ 1000000):PC Tryz.prog 95 [b8 p,iv l] (fun r => r = bv (s8 p l && (Be p l).isNone)):=by
 have h1 := Ri p l hl hs
 rw [← Nq]
 have hb := OE p l
 generalize N0 p l = a at *
 generalize Qx p l = c at *
 refine aC Tryz.func95 Tryz.ntmps95 ?_
 repeat' (first|(apply aF;(apply aA (k := 168);rfl;exact h1;exact Pur.pf;rfl))|refine aE ?_|(refine bS ?_ ?_ <;> intro hg hq <;> try (exfalso;omega))|fail)
 all_goals (refine aD rfl ⟨?_,rfl⟩; simp only [aO]; first|(simp_all;done)|(simp_all;omega))
theorem KR {p:Prg}{l:Int}{L:List Iss}(hL:bD p = true → ∃ f:Flows p.types (aB p),L = f.iss) (ha:(bD p && L.isEmpty) = true) (h0:0 ≤ l) (h6:l ≤ 6):(s8 p l && (Be p l).isNone) = true:=by
 have hv := (Bool.and_eq_true _ _ ▸ ha).1
 have h8 : s8 p l = true := pJ.2 ⟨hv,h0,h6⟩
 rw [h8,Bool.true_and,Option.isNone_iff_eq_none]
 unfold Be
 rw [if_pos h8]
 refine FD fun j _ => ?_
 unfold oI
 rcases FO (cs := xQ j l.toNat) (n := 80) hL ha with q|q | ⟨_,q⟩
 ·rw [q]; rfl
 ·rw [q]; rfl
 ·omega
end Go.Proofs.YtahdccneecdmmaaGreat
namespace Go.Proofs.YtahdccneecdmmaaGreat
open Go.AL Go.ChangeShapes Go.WideShapes Go.ChangeAt Go.RowKit
theorem yN {w:World}{bad:Nat → Prop}{ι:Pl}{b:Nat}:∀ (bs:List UInt8) (o:Nat),¬ bad b → (∀ j,j < bs.length → w.cell? ⟨b,o + j,none⟩ = some (.int .u8 ((bs[j]!).toNat:Int))) → RdC w bad ι (flat cU bs) b o
 | [],_,_,_ => by simp only [flat,List.flatMap_nil,RdC]
 | x :: bs, o, hb, h => by
  have h0 := h 0 (by simp)
  have e : flat cU (x :: bs) = .v (.int .u8 (x.toNat : Int)) :: flat cU bs := rfl
  rw [e]
  simp only [RdC]
  refine ⟨⟨.int .u8 (x.toNat : Int),by simpa using h0,rfl,by simp only [Rd]⟩,yN bs (o + 1) hb fun j hj => ?_⟩
  have := h (j + 1) (by simpa using hj)
  rw [show o + 1 + j = o + (j + 1) from by omega]
  simpa using this
theorem B8 {P:Program}{k:FuncId}{bs:List UInt8}(h:PC P k [sl cU bs] (fun r => r = bv true)){W:World}{v:Value}(hv:Rd W (fun _ => False) (fun _ => none) (sl cU bs) v) :
  Calls P k #[v] W fun e W' => e = .returned (.bool true) ∧ Below W.heap.size W W' := by
 let C : Ctx := { N := 0,w0 := W,W0 := fun _ => False,X := fun _ => False,ι0 := fun _ => none,xlt := fun _ h => h.elim }
 have hbad : ∀ b, ¬ aL C.X (fun _ => none) (aU []) b := by
  rintro b (h | ⟨id,cs,β,h1,h2⟩)
  ·exact h
  ·cases h2
 have g : HG C (fun _ => none) (fun j => 0 ≤ j) (aU []) W :=
  ⟨fun id cs h => by simp [aU] at h,fun id id' cs cs' b β β' h => by simp [aU] at h,Fr.refl _ _,fun _ _ h => h,fun _ _ => rfl⟩
 have hcar : Carry W (fun _ => False) (fun _ => none) W (aL C.X (fun _ => none) (aU [])) (fun _ => none) := ⟨fun b o x _ h2 => ⟨hbad b,h2⟩,fun _ _ h => h,fun _ => Nat.le_refl _⟩
 have ha : RdV W (aL C.X (fun _ => none) (aU [])) (fun _ => none) [sl cU bs] [v] := by
  simp only [RdV]
  exact ⟨v,[],rfl,Rd.carry hcar _ _ hv,rfl⟩
 refine (h C _ W [v] rfl rfl g ha).mono ?_
 rintro e W' ⟨v',r,H',ι',rfl,⟨rfl,_⟩,h4,h5⟩
 simp only [Rd] at h4
 subst h4
 have f := h5.fr
 exact ⟨rfl,f.os,f.tape,f.output,f.size,fun b hb => f.block b hb (fun h => h)⟩
theorem RK:laidOutB Tryz.prog = true := by kernel_rfl
theorem P3:Tryz.prog.cellsOf 5 = 1 := by kernel_rfl
theorem Iy {H:Type}{enc:TypeId × Value → H}{W:World}{base:Nat}{v0:Value}{d0:DataW H}{p:List MemPlace}(hval:Value.okWide Tryz.prog W .any base 22 v0) (h0:DataW.Trod enc Tryz.prog W 0 (fun _ => true) true 22 v0 d0 p) :
  ∃ bs : List UInt8,Rd W (fun _ => False) (fun _ => none) (sl cU bs) v0 := by
 obtain ⟨a0,len,cap,rfl⟩ := okWide_slice Tryz.underlying22 hval
 obtain ⟨fuel,hf⟩ := h0
 rcases open_ints Tryz.underlying22 Tryz.underlying5 P3 hf with ⟨hcs,hx⟩ | ⟨a,len',cap',zs,hcs,_,hl,hm,hz,hx,hcell,hwz⟩
 ·simp [Value.cells] at hcs
  obtain ⟨rfl,rfl,rfl⟩ := hcs
  refine ⟨[],?_⟩
  simp only [Rd]
  exact ⟨none,0,rfl,.inl rfl⟩
 ·simp [Value.cells] at hcs
  obtain ⟨rfl,rfl,rfl⟩ := hcs
  simp only [if_true] at hz
  refine ⟨(zs.take len).map fun n => UInt8.ofNat n.toNat,?_⟩
  have hlen : ((zs.take len).map fun n => UInt8.ofNat n.toNat).length = len := by simp;omega
  simp only [Rd]
  refine ⟨some a,cap,by rw [hlen],?_⟩
  by_cases h00 : len = 0
  ·exact .inl (by rw [hlen]; exact h00)
  ·obtain ⟨b, off, spot⟩ := a
   have hspot : spot = none := by simpa [Addr.add] using World.cell?_spot (hcell 0 (by omega))
   subst hspot
   refine .inr ⟨b,off,by rw [hlen]; exact hl,rfl,.inr ⟨fun h => h,yN _ _ (fun h => h) fun j hj => ?_⟩⟩
   rw [hlen] at hj
   have hcj := hcell j (by omega)
   rw [Addr.add_lit] at hcj
   rw [hcj]
   have e : zs.getD j 0 = zs[j]'(by omega) := by simp [List.getD,List.getElem?_eq_getElem (show j < zs.length by omega)]
   have hw := hwz (zs[j]'(by omega)) (List.getElem_mem _)
   have hr : 0 ≤ zs[j]'(by omega) ∧ zs[j]'(by omega) ≤ 255 := by simpa [Lit.wf,IntKind.min,IntKind.max,IntKind.signed,IntKind.bits] using hw
   rw [e,bC _ _ (by rw [hlen]; exact hj)]
   simp only [List.getElem_map,List.getElem_take]
   congr 2
   simp only [UInt8.toNat_ofNat']
   omega
end Go.Proofs.YtahdccneecdmmaaGreat
namespace Go.Proofs.YtahdccneecdmmaaGreat
open Go.AL Go.RowKit
theorem Kf (ck:Nat) [hck:CaT Tryz.prog ck] (ts:List Int) (bd:List AL.Stmt) (pts:List Pnt) (Aa Am Al Af Ap:List Nat) (w:WG ts pts) (ga:oL ts pts Aa) (gm:nJ ts pts Am) (hll:Al.length = pts.length) (hAlb:∀ i,i < pts.length → Al[i]! < 2 ^ ts.length) (gf:qX ts pts Af) (gp:oK ts pts Ap)
  (hcl : ∀ i : Int,0 ≤ i ∧ i < pts.length → PC Tryz.prog ck [iv i,.iptr [.imm pts.length (flat cW Af)]] (fun r => r = .agg (flat cW (cH Af i.toNat)))) :
  PC Tryz.prog 105 [aG ts bd pts,.imm pts.length (flat cN Al),.clos (.func ck) [] [.iptr [.imm pts.length (flat cW Af)]]] (fun r => r = sl dW (iX ts pts Aa Am Al Af Ap pts.length)) := by
 have hpl := w.pl
 have htl := w.tl
 have hla := ga.1
 have hlm := gm.1
 have hlf := gf.1
 have hlp := gp.1
 refine aC Tryz.func105 Tryz.ntmps105 ?_
 repeat' (first|(apply aF;first|(apply fT (d := 10) (e := 3);rfl;rfl)|(first|(apply aA (k := 102);rfl;(apply tI <;> (assumption));exact Pur.pf;rfl)|(apply aA (k := 121);rfl;(apply vZ <;> (assumption));exact Pur.pf;rfl)|(apply aA (k := 184);rfl;(apply wY <;> (assumption));exact Pur.pf;rfl)))|refine aE ?_|fail)
 refine aH (σ := Nat × List Iss × Nat) [0,1,2,7,8,9,27,28] [] (fun k => [(29,iv (k.1 : Int)),(10,.own 0 0 k.2.2 3)]) (fun k => [(0,some (flat dW k.2.1))]) (fun k => k.1 ≤ pts.length ∧ k.2.1 = iX ts pts Aa Am Al Af Ap k.1 ∧ k.2.2 = k.2.1.length ∧ k.2.2 ≤ k.1 * 124) (fun k => pts.length - k.1) (0,[],0) ⟨by omega,rfl,rfl,Nat.le_refl _⟩ ?_
 rintro ⟨i,u,m⟩ ⟨hk,hu,hm,hmk⟩
 dsimp only at hk hu hm hmk ⊢
 by_cases hin : i < pts.length
 ·have hst := w.set i hin
  have hsU : Sm (wS ts pts[i]! [1,2,3]) := bY (by omega)
  have bl : ∀ {A : Nat} {n : Nat}, n ≤ 62 → (∀ v, A.testBit v = true → v < n) → A < 2 ^ n := fun _ hv => Nat.lt_pow_two_of_testBit _ fun v h => by
   cases hq : Nat.testBit _ v with
   | false => rfl
   | true => have := hv v hq;omega
  have hAa : Sm Aa[i]! := ⟨bl (n := 62) (by omega) fun v hv => by have := ((ga.2 i hin v).1 hv).1;omega⟩
  have hAm : Sm Am[i]! := ⟨bl (n := 62) (by omega) fun v hv => by have := sX w ((gm.2 i hin v).1 hv);dsimp only at this;omega⟩
  have hAl := hAlb i hin
  have hAl2 : Sm Al[i]! := ⟨Nat.lt_of_lt_of_le hAl (Nat.pow_le_pow_right (by decide) (by omega))⟩
  have hAp : Ap[i]! < 2 ^ pts.length := bl (by omega) fun v hv => (mD ((gp.2 i hin v).1 hv)).1
  have hAp2 : Sm Ap[i]! := ⟨Nat.lt_of_lt_of_le hAp (Nat.pow_le_pow_right (by decide) (by omega))⟩
  have hrl := eQ hlf hin
  have hrs : ∀ z : Nat, Sm (cH Af i)[z]! := by
   intro z
   by_cases hz : z < 6
   ·rw [dS hlf hin hz]
    exact ⟨bl (n := 62) (by omega) fun v hv => by have := (wF w ((gf.2 i z hin hz v).1 hv)).2.2;dsimp only at this;omega⟩
   ·rw [getElem!_neg _ z (by rw [hrl]; exact hz)]; exact ⟨by decide⟩
  have hkp : k8 ts pts[(i : Int).toNat]! Al[i]! (cH Af (i : Int).toNat) < 2 ^ pts.length := by
   refine bl (by omega) fun v hv => ?_
   unfold k8 at hv
   rw [dI] at hv
   rcases hv with hv | ⟨z,hz,hv⟩
   ·simp at hv
   ·obtain ⟨q, h1, h2, rfl⟩ := bU.1 hz
    rw [b9,Bool.and_eq_true] at h2
    have h3 := cK hAl h2.1
    have h4 : q < 6 := by omega
    have h5 : (cH Af i)[q]!.testBit v = true := hv
    rw [dS hlf hin h4] at h5
    exact (wF w ((gf.2 i q hin h4 v).1 h5)).2.2
  have hkp2 : Sm (k8 ts pts[(i : Int).toNat]! Al[i]! (cH Af (i : Int).toNat)) := ⟨Nat.lt_of_lt_of_le hkp (Nat.pow_le_pow_right (by decide) (by omega))⟩
  have hlo : k8 ts pts[(i : Int).toNat]! Al[i]! (cH Af (i : Int).toNat) &&& Ap[i]! < 2 ^ pts.length := Nat.and_lt_two_pow _ hAp
  have hcf := rP w (Am := Am) (Al := Al) (Af := Af) (i := i) hAp
  have hcf2 : Sm (tB ts pts Am Al Af Ap i) := ⟨Nat.lt_of_lt_of_le hcf (Nat.pow_le_pow_right (by decide) (by omega))⟩
  have hcf3 : Sm (Fu pts (k8 ts pts[(i : Int).toNat]! Al[i]! (cH Af (i : Int).toNat) &&& Ap[i]!) (fS ts pts[(i : Int).toNat]! (Am[i]!.testBit (aM pts[(i : Int).toNat]!).toNat)) 0) := hcf2
  have hb1 := cJ (iW (wS ts pts[i]! [1,2,3]) Aa[i]!)
  have hb2 := cJ (tB ts pts Am Al Af Ap i)
  repeat' (first|(apply aF;(first|(apply aA (k := 120);rfl;(apply gD <;> (infer_instance));(rfl);rfl)|(apply aA (k := 158);rfl;(apply g0 <;> (assumption));exact Pur.pf;rfl)))|refine aE ?_|(refine aK ?_ ?_ <;> intro hc hq <;> try (exfalso;omega))|refine bQ ?_|fail)
  have hb1b : ∀ j,j < (a8 (iW (wS ts pts[i]! [1,2,3]) Aa[i]!)).length → 0 ≤ (a8 (iW (wS ts pts[i]! [1,2,3]) Aa[i]!))[j]! := fun j h => (gY (inferInstance : Sm (iW (wS ts pts[i]! [1,2,3]) Aa[i]!)).pf h).1
  refine aH (σ := Nat × List Iss × Nat) [0,1,2,7,8,9,11,27,28,29,42,43] [] (fun j => [(44,iv (j.1 : Int)),(10,.own 0 0 j.2.2 3)]) (fun j => [(0,some (flat dW j.2.1))]) (fun j => j.1 ≤ (a8 (iW (wS ts pts[i]! [1,2,3]) Aa[i]!)).length ∧ j.2.1 = u ++ oX i ((a8 (iW (wS ts pts[i]! [1,2,3]) Aa[i]!)).take j.1) ∧ j.2.2 = j.2.1.length ∧ j.2.2 ≤ i * 124 + j.1) (fun j => (a8 (iW (wS ts pts[i]! [1,2,3]) Aa[i]!)).length - j.1) (0,u,m) ⟨by omega,by simp [oX],hm,by omega⟩ ?_
  rintro ⟨j,u2,m2⟩ ⟨hj,hu2,hm2,hmk2⟩
  dsimp only at hj hu2 hm2 hmk2 ⊢
  by_cases hjn : j < (a8 (iW (wS ts pts[i]! [1,2,3]) Aa[i]!)).length
  ·repeat' (first | (apply aF; (apply aJ (t := _);rfl;rfl;rfl;(exact (rfl:_=some [_, _, _]));rfl;rfl)) | refine aE ?_ | (refine aK ?_ ?_ <;> intro hc hq <;> try (exfalso; omega))|fail)
   (refine bE (j + 1,_,_) (Le.renA [(0,3)]) ?_ ?_)
   ·dsimp only
    refine ⟨by omega,?_,by simp;omega,by omega⟩
    rw [hu2]; unfold oX;rw [c6 _ _ _ hjn,List.append_assoc]
   ·dsimp only;omega
  ·have hu3 : u2 = u ++ oX i (a8 (iW (wS ts pts[i]! [1, 2, 3]) Aa[i]!)) := by rw [hu2, List.take_of_length_le (by omega)]
   have hcl0 := hcl (i : Int) (by omega)
   repeat' (first|(apply aF;first|(first|(apply aA (k := 76);rfl;(apply lT <;> (assumption));(rfl);rfl)|(apply aA (k := 185);rfl;(apply rY <;> (first|assumption|omega));exact Pur.pf;rfl)|(apply aA (k := 186);rfl;(apply Dv <;> (first|assumption|omega));exact Pur.pf;rfl))|(apply gW;rfl;rfl;infer_instance;rfl;(apply hcl0);exact Pur.pf;rfl))|refine aE ?_|(refine aK ?_ ?_ <;> intro hc hq <;> try (exfalso;omega))|refine bQ ?_|fail)
   generalize hL : a8 (Fu pts (k8 ts pts[(i : Int).toNat]! Al[i]! (cH Af (i : Int).toNat) &&& Ap[i]!) (fS ts pts[(i : Int).toNat]! (Am[i]!.testBit (aM pts[(i : Int).toNat]!).toNat)) 0) = L2
   have hL2 : a8 (tB ts pts Am Al Af Ap i) = L2 := hL
   have hbd : ∀ j,j < L2.length → 0 ≤ L2[j]! ∧ L2[j]! < pts.length := fun j h => by rw [← hL2] at h ⊢; exact gY hcf h
   rw [hL2] at hb2
   refine aH (σ := Nat × List Iss × Nat) [0,1,2,7,8,9,11,27,28,29,77,78] [] (fun l => [(79,iv (l.1 : Int)),(10,.own 0 0 l.2.2 3)]) (fun l => [(0,some (flat dW l.2.1))]) (fun l => l.1 ≤ L2.length ∧ l.2.1 = u2 ++ o8 pts i (L2.take l.1) ∧ l.2.2 = l.2.1.length ∧ l.2.2 ≤ i * 124 + 62 + l.1) (fun l => L2.length - l.1) (0,u2,m2) ⟨by omega,by simp [o8],hm2,Nat.le_trans hmk2 (by omega)⟩ ?_
   rintro ⟨l,u4,m4⟩ ⟨hl,hu4,hm4,hmk4⟩
   dsimp only at hl hu4 hm4 hmk4 ⊢
   by_cases hln : l < L2.length
   ·have hbl := hbd l hln
    repeat' (first|(apply aF;(apply aJ (t := _);rfl;rfl;rfl;(exact (rfl:_=some [_,_,_]));rfl;rfl))|refine aE ?_|(refine aK ?_ ?_ <;> intro hc hq <;> try (exfalso;omega))|fail)
    ·(refine bE (l + 1, _, _) (Le.renA [(0, 3)]) ?_ ?_)
     ·dsimp only
      refine ⟨by omega,?_,by simp;omega,by omega⟩
      rw [hu4]; unfold o8;rw [c6 _ _ _ hln,List.append_assoc,if_pos hq]
     ·dsimp only;omega
    ·(refine bE (l + 1, _, _) (Le.renA [(0, 3)]) ?_ ?_)
     ·dsimp only
      refine ⟨by omega,?_,by simp;omega,by omega⟩
      rw [hu4]; unfold o8;rw [c6 _ _ _ hln,List.append_assoc,if_neg hq]
     ·dsimp only;omega
   ·repeat' (first | refine aE ?_ | (refine aK ?_ ?_ <;> intro hc hq <;> try (exfalso; omega))|fail)
    (refine bE (i + 1,u4,m4) (Le.renA [(0,0)]) ?_ ?_)
    ·dsimp only
     refine ⟨by omega,?_,hm4,by omega⟩
     rw [jJ,hu4,List.take_of_length_le (by omega),hu3,← hL2,hu,List.append_assoc]; rfl
    ·dsimp only;omega
 ·repeat' (first | refine aE ?_ | (refine aK ?_ ?_ <;> intro hc hq <;> try (exfalso; omega))|fail)
  (refine aS (Le.frzD (d := 6) (i := 0) rfl rfl) ?_; refine aD rfl ?_)
  refine ⟨?_,(by (exact bB _ _))⟩
  simp only [aO,sl]
  rw [hm,hu,show i = pts.length by omega]
theorem Ig (n:Nat) (A:List Nat) (i:Int) (hA:A.length = n * 6) (hi:0 ≤ i ∧ i < n):PC Tryz.prog 106 [iv i,.iptr [.imm n (flat cW A)]] (fun r => r = .agg (flat cW (cH A i.toNat))):=by
 have h6 : ((A.drop (i.toNat * 6)).take 6).length = 6 := eQ hA (by omega)
 refine aC Tryz.func106 Tryz.ntmps106 ?_
 repeat' (first|refine aE ?_|fail)
 refine aD (iB (z := 6) rfl rfl h6 (by decide)) ⟨rfl,(by (exact bB _ _))⟩
theorem Od {ts:List Int}{pts:List Pnt}(w:WG ts pts){Am:List Nat}(gm:nJ ts pts Am) (i:Nat) (hi:i < pts.length):(xU ts pts Am)[i]! < 2 ^ ts.length:=by
 rw [qD _ _ _ hi]
 refine n7 w hi (Nat.lt_pow_two_of_testBit _ fun v hv => ?_)
 rw [Bool.eq_false_iff]; intro hq
 have := sX w ((gm.2 i hi v).1 hq);dsimp only at this;omega
theorem Hj (p:Prg) (f:Flows p.types (aB p)) (hv:bD p = true) (hl:p.types.length ≤ 1000000) (hs:aT p.body ≤ 1000000):PC Tryz.prog 40 [b8 p] (fun r => r = sl dW (zQ p f)):=by
 have w := WG.of_valid hv
 have hg := jL p hl hs
 rw [if_pos hv] at hg
 have hpl := w.pl
 have hck := Kf 106 p.types p.body (aB p) f.Aa f.Am (xU p.types (aB p) f.Am) f.Af f.Ap w f.ga f.gm (EM _ _ _) (Od w f.gm) f.gf f.gp (fun i hi => Ig _ _ i f.gf.1 hi)
 have hml := f.gm.1
 have hsm : ∀ z : Nat, Sm f.Am[z]! := by
  intro z
  by_cases hz : z < (aB p).length
  ·refine ⟨Nat.lt_of_lt_of_le (Nat.lt_pow_two_of_testBit _ (n := 6) fun v hv => ?_) (by decide)⟩
   cases hq : f.Am[z]!.testBit v with
   | false => rfl
   | true => have := sX w ((f.gm.2 z hz v).1 hq);have := w.tl;dsimp only at *; omega
  ·rw [getElem!_neg f.Am z (by rw [hml]; exact hz)]; exact ⟨by decide⟩
 have hms := tI p.types p.body (aB p) f.Am w f.gm
 have hln := yI p.types p.body (aB p) f.Af w f.gf
 refine aC Tryz.func40 Tryz.ntmps40 ?_
 repeat' (first|(apply aF;first|(apply aA (k := 72);rfl;exact hg;exact Pur.pf;rfl)|(apply aA (k := 102);rfl;exact hms;exact Pur.pf;rfl))|refine aE ?_|fail)
 refine AW.le ?_ (Le.nilOwn (d := 5) 1 rfl (by decide))
 refine aH (σ := Nat × List Nat) [3,17,18] [] (fun k => [(19,iv (k.1 : Int)),(5,.own 1 0 k.1 1)]) (fun k => [(1,some (flat cN k.2))]) (fun k => k.1 ≤ (aB p).length ∧ k.2 = (xU p.types (aB p) f.Am).take k.1) (fun k => (aB p).length - k.1) (0,[]) ⟨Nat.zero_le _,rfl⟩ ?_
 rintro ⟨k,u⟩ ⟨hk,hu⟩
 dsimp only at hk hu ⊢
 have hvll := EM p.types (aB p) f.Am
 have hul : u.length = k := by rw [hu,List.length_take]; omega
 repeat' (first|(apply aF;first|(apply aA (k := 104);rfl;exact hln;exact Pur.pf;rfl)|(with_reducible apply aY (d := 34))|(apply aA (k := 103);rfl;(apply wL <;> (first|assumption|omega|infer_instance));exact Pur.pf;rfl))|refine aE ?_|(refine aK ?_ ?_ <;> intro hc hq <;> try (exfalso;omega))|fail)
 ·(refine bE (k + 1, _) (Le.renA [(1, 3)]) ?_ ?_)
  ·dsimp only
   refine ⟨by omega,?_⟩
   rw [hu,bG _ _ (by omega),qD _ _ _ (by omega)]; rfl
  ·dsimp only;omega
 ·have huu : u = xU p.types (aB p) f.Am := by rw [hu, List.take_of_length_le (by omega)]
  refine bZ (c8 ?_ (Le.frzD (d := 5) (i := 1) rfl rfl))
  rw [huu,show k = (aB p).length by omega]
  repeat' (first|(apply aF;first|(apply mF;rfl;rfl;rfl)|(apply aA (k := 105);rfl;exact hck;exact Pur.pf;rfl))|refine aE ?_|fail)
  exact aD rfl ⟨rfl,(by (exact bB _ _))⟩
theorem Dq (p:Prg) (f:Flows p.types (aB p)) (Al:List Nat) (hal:∀ i,i < (aB p).length → Al[i]! < 2 ^ p.types.length) (hs:aT p.body ≤ 1000000) (w:WG p.types (aB p)) (hr:Rch (aB p)):PC Tryz.prog 169 [b8 p,sl gQ (bH p.types.length (aB p).length Al)] (fun r => r = sl dW (iX p.types (aB p) f.Aa f.Am Al f.Af f.Ap (aB p).length)):=by
 have hpl := w.pl
 have hp0 := w.p0
 have htl := w.tl
 have hfa := fL p true f.Aa hs w hr (by unfold kO;exact f.ga)
 have hfm := fL p false f.Am hs w hr (by unfold kO;exact f.gm)
 have hfl := uK p f.Af f.Ap hs w f.gf f.gp
 have hra := cZ p.types.length (aB p).length f.Aa
 have hrm := cZ p.types.length (aB p).length f.Am
 have hrl := cZ p.types.length (aB p).length Al
 have hfll : ((List.range (aB p).length).map (e7 p.types.length (aB p).length f.Af f.Ap)).length = (aB p).length := by simp
 refine aC Tryz.func169 Tryz.ntmps169 ?_
 repeat' (first|(apply aF;first|(apply aA (k := 132);rfl;exact dP p hs;exact Pur.pf;rfl)|(apply aA (k := 64) (d := 20);rfl;exact hfa;exact Pur.pf;rfl)|(apply aA (k := 64) (d := 22);rfl;exact hfm;exact Pur.pf;rfl)|(apply aA (k := 171);rfl;exact hfl;exact Pur.pf;rfl))|refine aE ?_|fail)
 refine aH (σ := Nat × List Iss × Nat) [1,2,6,7,8,9] [0] (fun s => [(10,iv (s.1 : Int)),(5,.own 1 0 s.2.2 3)]) (fun s => [(1,some (flat dW s.2.1))]) (fun s => s.1 ≤ (aB p).length ∧ s.2.1 = iX p.types (aB p) f.Aa f.Am Al f.Af f.Ap s.1 ∧ s.2.2 = s.2.1.length ∧ s.2.2 ≤ 67 * s.1) (fun s => (aB p).length - s.1) (0,[],0) ⟨Nat.zero_le _,rfl,rfl,Nat.le_refl _⟩ ?_
 rintro ⟨i,L,m⟩ ⟨hi,hL,hm,hmb⟩
 dsimp only at hi hL hm hmb
 try dsimp only
 by_cases hin : i < (aB p).length
 ·repeat' (first | refine aE ?_ | (refine aK ?_ ?_ <;> intro hc hq <;> try (exfalso; omega))|fail)
  refine aH (σ := Nat × List Iss × Nat) [1,2,6,7,8,9,10] [0] (fun s => [(11,iv (s.1 : Int)),(5,.own 1 0 s.2.2 3)]) (fun s => [(1,some (flat dW s.2.1))]) (fun s => s.1 ≤ p.types.length ∧ s.2.1 = L ++ L6 p.types (aB p) f.Aa i s.1 ∧ s.2.2 = s.2.1.length ∧ s.2.2 ≤ 67 * i + s.1) (fun s => p.types.length - s.1) (0,L,m) ⟨Nat.zero_le _,(List.append_nil L).symm,hm,hmb⟩ ?_
  rintro ⟨v,L2,m2⟩ ⟨hv,hL2,hm2,hmb2⟩
  dsimp only at hv hL2 hm2 hmb2
  try dsimp only
  by_cases hvn : v < p.types.length
  ·have hga := iC p.types.length (aB p).length f.Aa i v hin hvn
   have hgl : (bH p.types.length (aB p).length f.Aa)[i]!.length = p.types.length := by rw [cQ _ _ _ _ hin]; simp
   repeat' (first|(apply aF;(apply aA (k := 173);rfl;(apply kF <;> (omega));exact Pur.pf;rfl))|refine aE ?_|(refine aK ?_ ?_ <;> intro hc hq <;> try (exfalso;omega))|(refine bS ?_ ?_ <;> intro hg hq <;> try (exfalso;omega))|refine bQ ?_|fail)
   ·(refine bE (v + 1, L2 ++ [⟨i, 1, v⟩], m2 + 1) (Le.renA [(0, 0), (1, 3)]) ?_ ?_)
    ·have hu : sV p.types (aB p) f.Aa i v = true := by
      unfold sV;rw [← hga,decide_eq_false (by assumption),(by assumption : (bH p.types.length (aB p).length f.Aa)[i]![v]! = false)]; rfl
     exact ⟨(by show v + 1 ≤ p.types.length;omega),(by show L2 ++ [⟨i,1,v⟩] = _; rw [hL2,List.append_assoc,← AJ hu]),(by show m2 + 1 = (L2 ++ [_]).length;rw [List.length_append,List.length_singleton,hm2]),(by show m2 + 1 ≤ 67 * i + (v + 1);omega)⟩
    ·show p.types.length - (v + 1) < p.types.length - v;omega
   ·(refine bE (v + 1, L2, m2) (Le.renA [(0, 0), (1, 1)]) ?_ ?_)
    ·have hu : sV p.types (aB p) f.Aa i v = false := by
      unfold sV;rw [← hga,(by assumption : (bH p.types.length (aB p).length f.Aa)[i]![v]! = true)]; simp
     exact ⟨(by show v + 1 ≤ p.types.length;omega),(by show L2 = _; rw [lE hu]; exact hL2),hm2,(by show m2 ≤ 67 * i + (v + 1);omega)⟩
    ·show p.types.length - (v + 1) < p.types.length - v;omega
   ·(refine bE (v + 1, L2, m2) (Le.renA [(0, 0), (1, 1)]) ?_ ?_)
    ·have hu : sV p.types (aB p) f.Aa i v = false := by
      unfold sV;rw [decide_eq_true (by assumption)]; rfl
     exact ⟨(by show v + 1 ≤ p.types.length;omega),(by show L2 = _; rw [lE hu]; exact hL2),hm2,(by show m2 ≤ 67 * i + (v + 1);omega)⟩
    ·show p.types.length - (v + 1) < p.types.length - v;omega
  ·have hvN : v = p.types.length := by omega
   have hset := w.set i hin
   have hy := w.y i hin
   have hfi : ((List.range (aB p).length).map (e7 p.types.length (aB p).length f.Af f.Ap))[i]! = e7 p.types.length (aB p).length f.Af f.Ap i := a6 _ _ _ hin
   have hgm : (bH p.types.length (aB p).length f.Am)[i]!.length = p.types.length := by rw [cQ _ _ _ _ hin]; simp
   have hgl : (bH p.types.length (aB p).length Al)[i]!.length = p.types.length := by rw [cQ _ _ _ _ hin]; simp
   have hf2 : (e7 p.types.length (aB p).length f.Af f.Ap i).2.length = (aB p).length := by simp [e7]
   have hf1 : (e7 p.types.length (aB p).length f.Af f.Ap i).1.length = p.types.length := by simp [e7]
   have hf3 : ∀ v, v < p.types.length → (e7 p.types.length (aB p).length f.Af f.Ap i).1[v]!.length = (e7 p.types.length (aB p).length f.Af f.Ap i).2.length := fun v hv => by
    rw [hf2]; unfold e7;dsimp only;rw [a6 _ _ _ hv]; simp
   have hacc := l7 p.types (aB p)[i]! (bH p.types.length (aB p).length f.Am)[i]! htl hgm hset.1 hy
   have hlv := vC p.types (aB p)[i]! ((List.range (aB p).length).map (e7 p.types.length (aB p).length f.Af f.Ap))[i]!.1 ((List.range (aB p).length).map (e7 p.types.length (aB p).length f.Af f.Ap))[i]!.2 (bH p.types.length (aB p).length Al)[i]! htl (by rw [hfi,hf2]; exact hpl) hgl (by rw [hfi]; exact hf1) (by rw [hfi]; exact hf3)
   have hlvl : (wV p.types (aB p)[i]! ((List.range (aB p).length).map (e7 p.types.length (aB p).length f.Af f.Ap))[i]!.1 (bH p.types.length (aB p).length Al)[i]! ((List.range (aB p).length).map (e7 p.types.length (aB p).length f.Af f.Ap))[i]!.2.length).length = (aB p).length := by unfold wV;rw [List.length_map,List.length_range,hfi,hf2]
   have hcn := kR (aB p) (fS p.types (aB p)[i]! (bH p.types.length (aB p).length f.Am)[i]![(aM (aB p)[i]!).toNat]!) ((List.range (aB p).length).map (e7 p.types.length (aB p).length f.Af f.Ap))[i]!.1 ((List.range (aB p).length).map (e7 p.types.length (aB p).length f.Af f.Ap))[i]!.2 (wV p.types (aB p)[i]! ((List.range (aB p).length).map (e7 p.types.length (aB p).length f.Af f.Ap))[i]!.1 (bH p.types.length (aB p).length Al)[i]! ((List.range (aB p).length).map (e7 p.types.length (aB p).length f.Af f.Ap))[i]!.2.length) hpl (by have := pP p.types (aB p)[i]! (bH p.types.length (aB p).length f.Am)[i]![(aM (aB p)[i]!).toNat]!; omega) (by rw [hfi]; exact hf2) hlvl
   have hcf : Lt (aB p) (fS p.types (aB p)[i]! (bH p.types.length (aB p).length f.Am)[i]![(aM (aB p)[i]!).toNat]!) ((List.range (aB p).length).map (e7 p.types.length (aB p).length f.Af f.Ap))[i]!.2 (wV p.types (aB p)[i]! ((List.range (aB p).length).map (e7 p.types.length (aB p).length f.Af f.Ap))[i]!.1 (bH p.types.length (aB p).length Al)[i]! ((List.range (aB p).length).map (e7 p.types.length (aB p).length f.Af f.Ap))[i]!.2.length) = AI p.types (aB p) f.Am Al f.Af f.Ap i := by
    rw [hfi,hf2]; rfl
   have hcl : (AI p.types (aB p) f.Am Al f.Af f.Ap i).length = (aB p).length := by unfold AI;rw [qJ]
   repeat' (first|(apply aF;first|(apply aA (k := 175);rfl;exact hacc;exact Pur.pf;rfl)|(apply aA (k := 176);rfl;exact hlv;exact Pur.pf;rfl)|(apply aA (k := 174);rfl;exact hcn;exact Pur.pf;rfl)|(with_reducible apply aY (d := 14)))|refine aE ?_|(refine aK ?_ ?_ <;> intro hc hq <;> try (exfalso;omega))|refine bQ ?_|fail)
   refine bZ ?_
   rw [hcf]
   repeat' (first|refine aE ?_|fail)
   refine aH (σ := Nat × List Iss × Nat) [1,2,6,7,8,9,10,13] [0] (fun s => [(14,iv (s.1 : Int)),(5,.own 1 0 s.2.2 3)]) (fun s => [(1,some (flat dW s.2.1))]) (fun s => s.1 ≤ (aB p).length ∧ s.2.1 = L2 ++ Nl (aB p) (AI p.types (aB p) f.Am Al f.Af f.Ap i) i s.1 ∧ s.2.2 = s.2.1.length ∧ s.2.2 ≤ 67 * i + 6 + s.1) (fun s => (aB p).length - s.1) (0,L2,m2) ⟨Nat.zero_le _,(List.append_nil L2).symm,hm2,by show m2 ≤ 67 * i + 6 + 0;omega⟩ ?_
   rintro ⟨l,L3,m3⟩ ⟨hl,hL3,hm3,hmb3⟩
   dsimp only at hl hL3 hm3 hmb3
   try dsimp only
   by_cases hln : l < (aB p).length
   ·repeat' (first | refine aE ?_ | (refine aK ?_ ?_ <;> intro hc hq <;> try (exfalso; omega))|fail)
    ·(refine bE (l + 1, L3, m3) (Le.renA [(0, 0), (1, 1)]) ?_ ?_)
     ·exact ⟨(by show l + 1 ≤ (aB p).length;omega),(by show L3 = _; rw [uM (by assumption)]; exact hL3),hm3,(by show m3 ≤ 67 * i + 6 + (l + 1);omega)⟩
     ·show (aB p).length - (l + 1) < (aB p).length - l;omega
    ·(refine bE (l + 1, L3 ++ [⟨i, 3, l⟩], m3 + 1) (Le.renA [(0, 0), (1, 3)]) ?_ ?_)
     ·have hk : DM (aB p) l = 3 := by unfold DM; rw [if_pos (by assumption)]
      exact ⟨(by show l + 1 ≤ (aB p).length;omega),(by show L3 ++ [⟨i,3,l⟩] = _; rw [hL3,List.append_assoc,← hk,← oC (by assumption)]),(by show m3 + 1 = (L3 ++ [_]).length;rw [List.length_append,List.length_singleton,hm3]),(by show m3 + 1 ≤ 67 * i + 6 + (l + 1);omega)⟩
     ·show (aB p).length - (l + 1) < (aB p).length - l;omega
    ·(refine bE (l + 1, L3 ++ [⟨i, 2, l⟩], m3 + 1) (Le.renA [(0, 0), (1, 3)]) ?_ ?_)
     ·have hk : DM (aB p) l = 2 := by unfold DM; rw [if_neg (by assumption)]
      exact ⟨(by show l + 1 ≤ (aB p).length;omega),(by show L3 ++ [⟨i,2,l⟩] = _; rw [hL3,List.append_assoc,← hk,← oC (by assumption)]),(by show m3 + 1 = (L3 ++ [_]).length;rw [List.length_append,List.length_singleton,hm3]),(by show m3 + 1 ≤ 67 * i + 6 + (l + 1);omega)⟩
     ·show (aB p).length - (l + 1) < (aB p).length - l;omega
   ·repeat' (first | refine aE ?_ | (refine aK ?_ ?_ <;> intro hc hq <;> try (exfalso; omega))|fail)
    (refine bE (i + 1,L3,m3) (Le.renA [(0,0),(1,1)]) ?_ ?_)
    ·refine ⟨(by show i + 1 ≤ (aB p).length; omega), ?_, hm3, (by show m3 ≤ 67 * (i + 1); omega)⟩
     show L3 = iX p.types (aB p) f.Aa f.Am Al f.Af f.Ap (i + 1)
     rw [jJ,← Mn w f f.gf.1 hin (hal i hin),hL3,hL2,hL,hvN,show l = (aB p).length by omega,List.append_assoc]
     rfl
    ·show (aB p).length - (i + 1) < (aB p).length - i;omega
 ·repeat' (first | refine aE ?_ | (refine aK ?_ ?_ <;> intro hc hq <;> try (exfalso; omega))|fail)
  have hiN : i = (aB p).length := by omega
  refine aS (Le.frzD (d := 4) (i := 1) rfl rfl) ?_
  refine aD rfl ⟨?_,(by (exact bB _ _))⟩
  simp only [aO]
  rw [hm,hL,hiN]
theorem OC {ts:List Int}{pts:List Pnt}(w:WG ts pts){Am:List Nat}{i:Nat}(hi:i < pts.length):iY ts pts[i]! (bH ts.length pts.length Am)[i]! = (bH ts.length pts.length (xU ts pts Am))[i]!:=by
 have hst := (w.set i hi).1
 have htl := w.tl
 have hset : aM pts[i]! < 62 := by omega
 rw [cQ _ _ _ _ hi,cQ _ _ _ _ hi,qD _ _ _ hi]
 refine bV (by simp [iY]) fun v hv => ?_
 have hvn : v < ts.length := by simpa [iY] using hv
 unfold iY
 rw [a6 _ _ _ (by simpa using hvn),a6 _ _ _ hvn,a6 _ _ _ hvn,dE hset,decide_eq_true hvn,Bool.true_and]
 cases decide (aM pts[i]! = (v : Int)) <;> cases Am[i]!.testBit v <;> simp
theorem Mx {xs:List (List Bool)}{m:Nat}{r:List Bool}(hm:m = xs.length):((flat gQ xs).drop 0).take (m * 1) ++ [sl cB r] = flat gQ (xs ++ [r]) := eO hm rfl
theorem GG (p:Prg) (f:Flows p.types (aB p)) (hv:bD p = true) (hl:p.types.length ≤ 1000000) (hs:aT p.body ≤ 1000000):PC Tryz.prog 96 [b8 p] (fun r => r = sl dW (zQ p f)):=by
 have w := WG.of_valid hv
 have hr := Rch.of p
 have hval := fX p hl (by omega)
 rw [hv] at hval
 have htl := w.tl
 have hpl := w.pl
 have hpt := dP p hs
 have hfm := fL p false f.Am hs w hr (by unfold kO;exact f.gm)
 have hal : ∀ i, i < (aB p).length → (xU p.types (aB p) f.Am)[i]! < 2 ^ p.types.length := fun i hi => by
  rw [qD _ _ _ hi]
  refine n7 w hi (Nat.lt_pow_two_of_testBit _ fun v hv => ?_)
  rw [Bool.eq_false_iff]; intro hq
  have := sX w ((f.gm.2 i hi v).1 hq);dsimp only at this;omega
 have hck := Dq p f (xU p.types (aB p) f.Am) hal hs w hr
 have hrm := cZ p.types.length (aB p).length f.Am
 refine aC Tryz.func96 Tryz.ntmps96 ?_
 repeat' (first|(apply aF;first|(apply aA (k := 61);rfl;exact hval;exact Pur.pf;rfl)|(apply aA (k := 132);rfl;exact hpt;exact Pur.pf;rfl)|(apply aA (k := 64);rfl;exact hfm;exact Pur.pf;rfl))|refine aE ?_|fail)
 refine aH (σ := Nat × List (List Bool)) [1,3,4] [0] (fun k => [(6,iv (k.1 : Int)),(5,.own 1 0 k.1 1)]) (fun k => [(1,some (flat gQ k.2))]) (fun k => k.1 ≤ (aB p).length ∧ k.2 = (bH p.types.length (aB p).length (xU p.types (aB p) f.Am)).take k.1) (fun k => (aB p).length - k.1) (0,[]) ⟨Nat.zero_le _,rfl⟩ ?_
 rintro ⟨k,u⟩ ⟨hk,hu⟩
 dsimp only at hk hu ⊢
 have hrv := cZ p.types.length (aB p).length (xU p.types (aB p) f.Am)
 have hul : u.length = k := by rw [hu,List.length_take]; omega
 have haf : k < (aB p).length → PC Tryz.prog 133 [sl cI p.types, dY (aB p)[k]!, sl cB (bH p.types.length (aB p).length f.Am)[k]!] (fun r => r = sl cB (bH p.types.length (aB p).length (xU p.types (aB p) f.Am))[k]!) := fun h => by
  rw [← OC w h]
  exact y4 p.types (aB p)[k]! (bH p.types.length (aB p).length f.Am)[k]! (by rw [cQ _ _ _ _ h]; simp) htl (w.set k h).1
 repeat' (first|(apply aF;first|(apply aA (k := 133);rfl;exact haf (by omega);exact Pur.pf;rfl)|(with_reducible apply aY (d := 36))|(apply bX;rfl;rfl;rfl;rfl;rfl;(rw [aI]; omega);(rfl);omega;omega;(exact Mx (by (omega)));rfl;rfl))|refine aE ?_|(refine aK ?_ ?_ <;> intro hc hq <;> try (exfalso;omega))|refine bQ ?_|fail)
 ·(refine bE (k + 1, _) (Le.renA [(0, 0), (1, 3)]) ?_ ?_)
  ·dsimp only
   refine ⟨by omega,?_⟩
   rw [hu,bG _ _ (by omega)]
  ·dsimp only;omega
 ·have huu : u = bH p.types.length (aB p).length (xU p.types (aB p) f.Am) := by rw [hu, List.take_of_length_le (by omega)]
  refine bZ (c8 ?_ (Le.frzD (d := 5) (i := 1) rfl rfl))
  rw [huu,show AV.imm k (flat gQ (bH p.types.length (aB p).length (xU p.types (aB p) f.Am))) = sl gQ (bH p.types.length (aB p).length (xU p.types (aB p) f.Am)) from by unfold sl;rw [hrv,show k = (aB p).length by omega]]
  repeat' (first|(apply aF;(apply aA (k := 169);rfl;exact hck;exact Pur.pf;rfl))|refine aE ?_|fail)
  exact aD rfl ⟨rfl,(by (exact bB _ _))⟩
theorem MJ {xs:List AL.Stmt}{m:Nat}{s:AL.Stmt}(hm:m = xs.length):((flat aN xs).drop 0).take (m * 6) ++ ([iv s.op,iv s.x,iv s.y,iv s.n,sl aN s.th,sl aN s.el].drop 0).take (1 * 6) = flat aN (xs ++ [s]) := eO hm (by rw [dA]; rfl)
theorem PH:PC Tryz.prog 162 [] (fun r => r = sl cI [1,2,3,4]):=by
 refine aC Tryz.func162 Tryz.ntmps162 ?_
 repeat' (first|(apply aF;(apply aJ (t := _);rfl;rfl;rfl;(exact (rfl:_=some [_,_,_,_]));rfl;rfl))|refine aE ?_|fail)
 exact aD rfl ⟨rfl,rfl⟩
theorem Pb:PC Tryz.prog 163 [] (fun r => r = sl aN smL):=by
 refine aC Tryz.func163 Tryz.ntmps163 ?_
 repeat' (first|(apply aF;(apply aJ (cs := flat aN smL);rfl;rfl;rfl;rfl;rfl;rfl))|refine aE ?_|fail)
 exact aD rfl ⟨rfl,(by (rfl))⟩
theorem OT:PC Tryz.prog 164 [] (fun r => r = iv 4):=by
 refine aC Tryz.func164 Tryz.ntmps164 ?_
 repeat' (first|refine aE ?_|fail)
 exact aD rfl ⟨rfl,rfl⟩
theorem PM (n:Nat) (hn:n < 4096):PC Tryz.prog 92 [iv (n:Int)] (fun r => r = b8 (NO n)):=by
 have h8 : smL.length = 8 := rfl
 have hst := Pb
 have hty := PH
 have hz := OT
 refine aC Tryz.func92 Tryz.ntmps92 ?_
 repeat' (first|(apply aF;first|(apply aA (k := 162);rfl;exact hty;(rfl);rfl)|(apply aA (k := 163);rfl;exact hst;(rfl);rfl))|refine aE ?_|fail)
 refine aH (σ := Nat × Nat × List AL.Stmt × Nat) [2,3,4] [0] (fun k => [(5,iv (k.1 : Int)),(0,iv (k.2.1 : Int))]) (fun k => [(2,some [sl cI [1,2,3,4],.own 1 0 k.2.2.2 6]),(1,some (flat aN k.2.2.1))]) (fun k => k.1 ≤ 4 ∧ k.2.1 ≤ 4096 ∧ k.2.2.1 ++ KV k.2.1 (4 - k.1) = (NO n).body ∧ k.2.2.2 = k.2.2.1.length ∧ k.2.2.2 = 2 + k.1) (fun k => 4 - k.1) (0,n,R9,2) ⟨Nat.zero_le _,by show n ≤ 4096;omega,rfl,rfl,rfl⟩ ?_
 rintro ⟨k,m,B,bl⟩ ⟨hk,hm9,hB,hbl,hb2⟩
 dsimp only at hk hm9 hB hbl hb2 ⊢
 repeat' (first|(apply aF;first|(apply aA (k := 164);rfl;exact hz;(rfl);rfl)|(apply bX;rfl;rfl;rfl;rfl;rfl;(rw [aI]; omega);(rfl);omega;omega;(exact MJ (by (assumption)));rfl;rfl))|refine aE ?_|(refine aK ?_ ?_ <;> intro hc hq <;> try (exfalso;omega))|refine bQ ?_|fail)
 ·(refine bE (k + 1, m / 8, B ++ [smL[m % 8]!], bl + 1) (Le.renA [(0, 0), (1, 4), (2, 2)]) ?_ ?_)
  ·refine ⟨by show k + 1 ≤ 4; omega, by show m / 8 ≤ 4096; omega, ?_, by show bl + 1 = (B ++ [_]).length; rw [List.length_append, hbl]; rfl, by show bl + 1 = 2 + (k + 1); omega⟩
   show (B ++ [smL[m % 8]!]) ++ KV (m / 8) (4 - (k + 1)) = _
   rw [← hB,show 4 - k = (4 - (k + 1)) + 1 by omega,KV,List.append_assoc]; rfl
  ·show 4 - (k + 1) < 4 - k;omega
 ·have e : B = (NO n).body := by rw [← hB, show 4 - k = 0 by omega, KV, List.append_nil]
  refine aS (Le.frzC (j := 0) (i := 1) [_] rfl rfl (by decide)) ?_
  rw [hbl,e]
  exact aD (l := [b8 (NO n)]) rfl ⟨rfl,Pur.pf⟩
def EL (l : List Iss) : List AV := [sl dW l]
instance : FlT EL 1:=⟨fun _ => rfl⟩
instance : FE EL (fun r => [sl dW r]):=⟨fun _ => rfl⟩
instance (r : List Iss) : Pur (EL r):=⟨by show (AV.pur (sl dW r) && true) = true;rw [Bool.and_true]; exact bB dW r⟩
theorem Gx (p:Prg) (hv:bD p = false) (hl:p.types.length ≤ 1000000) (hs:aT p.body ≤ 1000000):PC Tryz.prog 37 [b8 p] (fun r => r = .tup [iv 0,bv false]):=by
 have h3 := kY p hl (by omega)
 rw [hv] at h3
 refine aC Tryz.func37 Tryz.ntmps37 ?_
 repeat' (first|(apply aF;(apply aA (k := 39);rfl;exact h3;exact Pur.pf;rfl))|refine aE ?_|fail)
 exact aD rfl ⟨rfl,rfl⟩
theorem KD (p:Prg) (A B C:List Iss) (b:Bool) (hv:bD p = true) (hl:p.types.length ≤ 1000000) (hs:aT p.body ≤ 1000000) (h1:PC Tryz.prog 40 [b8 p] (fun r => r = sl dW A)) (h2:PC Tryz.prog 41 [b8 p] (fun r => r = sl dW B))
  (h4 : PC Tryz.prog 70 [b8 p] (fun r => r = sl dW C)) (h5 : PC Tryz.prog 95 [b8 p,iv 3] (fun r => r = bv b)) : PC Tryz.prog 37 [b8 p] (fun r => r = .tup [iv (yW [A,B,C] : Int),bv b]) := by
 have h3 := kY p hl (by omega)
 rw [hv] at h3
 refine aC Tryz.func37 Tryz.ntmps37 ?_
 repeat' (first|(apply aF;first|(apply aA (k := 39);rfl;exact h3;exact Pur.pf;rfl)|(apply aA (k := 40);rfl;exact h1;exact Pur.pf;rfl)|(apply aA (k := 41);rfl;exact h2;exact Pur.pf;rfl)|(apply aA (k := 70);rfl;exact h4;exact Pur.pf;rfl))|refine aE ?_|refine bQ ?_|fail)
 refine AW.le ?_ (Le.frzD (d := 16) (i := 1) (cs := flat EL [A,B,C]) rfl rfl)
 have hLl : [A,B,C].length = 3 := rfl
 generalize [A,B,C] = L at *
 refine aH (σ := Nat × Nat) [1,16,17] [0] (fun k => [(18,iv (k.1 : Int)),(4,iv (k.2 : Int))]) (fun k => []) (fun k => k.1 ≤ 3 ∧ k.2 = yW (L.take k.1) ∧ k.2 ≤ k.1) (fun k => 3 - k.1) (0,0) ⟨Nat.zero_le _,rfl,Nat.le_refl _⟩ ?_
 rintro ⟨k,c⟩ ⟨hk,hc0,hck⟩
 dsimp only at hk hc0 hck ⊢
 have hst : k < 3 → yW (L.take (k + 1)) = c + (if L[k]! = [] then 0 else 1) := fun h => by rw [bG _ _ (by omega),I6,← hc0]
 repeat' (first|(apply aF;(apply aA (k := 95);rfl;exact h5;exact Pur.pf;rfl))|refine aE ?_|(refine aK ?_ ?_ <;> intro hc hq <;> try (exfalso;omega))|fail)
 ·(refine bE (k + 1, c + 1) (Le.renA [(0, 0)]) ?_ ?_)
  ·refine ⟨by show k + 1 ≤ 3; omega, ?_, by show c + 1 ≤ k + 1; omega⟩
   show c + 1 = yW (L.take (k + 1))
   rw [hst (by omega),if_neg (fun e => by rw [e] at hq;simp at hq)]
  ·show 3 - (k + 1) < 3 - k;omega
 ·(refine bE (k + 1, c) (Le.renA [(0, 0)]) ?_ ?_)
  ·refine ⟨by show k + 1 ≤ 3; omega, ?_, by show c ≤ k + 1; omega⟩
   show c = yW (L.take (k + 1))
   rw [hst (by omega),if_pos (List.eq_nil_of_length_eq_zero (by omega))]; rfl
  ·show 3 - (k + 1) < 3 - k;omega
 ·have e : c = yW L := by rw [hc0, List.take_of_length_le (by omega)]
  rw [e]
  exact aD rfl ⟨rfl,rfl⟩
theorem LY (A B C:List Iss):yW [A,B,C] = (if 0 < A.length then 1 else 0) + (if 0 < B.length then 1 else 0) + (if 0 < C.length then 1 else 0):=by
 cases A <;> cases B <;> cases C <;> rfl
theorem G3 (p:Prg) (hv:bD p = false) (hl:p.types.length ≤ 1000000) (hs:aT p.body ≤ 1000000):PC Tryz.prog 38 [b8 p] (fun r => r = .tup [iv 0,bv false]):=by
 have h3 := fX p hl (by omega)
 rw [hv] at h3
 refine aC Tryz.func38 Tryz.ntmps38 ?_
 repeat' (first|(apply aF;(apply aA (k := 61);rfl;exact h3;exact Pur.pf;rfl))|refine aE ?_|fail)
 exact aD rfl ⟨rfl,rfl⟩
theorem JJ (p:Prg) (A B C:List Iss) (b:Bool) (hv:bD p = true) (hl:p.types.length ≤ 1000000) (hs:aT p.body ≤ 1000000) (h1:PC Tryz.prog 96 [b8 p] (fun r => r = sl dW A)) (h2:PC Tryz.prog 97 [b8 p] (fun r => r = sl dW B))
  (h4 : PC Tryz.prog 98 [b8 p] (fun r => r = sl dW C)) (h5 : PC Tryz.prog 99 [b8 p,iv 3] (fun r => r = bv b)) : PC Tryz.prog 38 [b8 p] (fun r => r = .tup [iv (yW [A,B,C] : Int),bv b]) := by
 have h3 := fX p hl (by omega)
 rw [hv] at h3
 refine aC Tryz.func38 Tryz.ntmps38 ?_
 repeat' (first|(apply aF;first|(apply aA (k := 61);rfl;exact h3;exact Pur.pf;rfl)|(apply aA (k := 96);rfl;exact h1;exact Pur.pf;rfl)|(apply aA (k := 97);rfl;exact h2;exact Pur.pf;rfl)|(apply aA (k := 98);rfl;exact h4;exact Pur.pf;rfl)|(apply aA (k := 99);rfl;exact h5;exact Pur.pf;rfl))|refine aE ?_|(refine aK ?_ ?_ <;> intro hc hq <;> try (exfalso;omega))|fail)
 all_goals (refine aD rfl ⟨?_,rfl⟩; simp only [aO]; rw [LY]; split <;> split <;> split <;> first|(exfalso;omega)|rfl)
theorem QY (z:Int) (h:0 ≤ z ∧ z < 4096):PC Tryz.prog 92 [iv z] (fun r => r = b8 (NO z.toNat)):=by
 obtain ⟨k,rfl⟩ : ∃ k : Nat,z = k := ⟨z.toNat,by omega⟩
 exact PM k (by omega)
noncomputable def Ki (p : Prg) : Nat × Bool := if hv : bD p = true then (yW (Qf p hv),s8 p 3 && (Be p 3).isNone) else (0,false)
theorem Kb (p:Prg) (hv:bD p = true):Ki p = (yW (Qf p hv),s8 p 3 && (Be p 3).isNone) := dif_pos hv
theorem NH (p:Prg) (hv:bD p = false):Ki p = (0,false) := dif_neg (by rw [hv]; decide)
theorem F2 (p:Prg) (hl:p.types.length ≤ 1000000) (hs:aT p.body ≤ 1000000):PC Tryz.prog 37 [b8 p] (fun r => r = .tup [iv ((Ki p).1:Int),bv (Ki p).2]):=by
 cases hv : bD p
 ·rw [NH p hv]; exact Gx p hv hl hs
 ·rw [Kb p hv]
  have hc := Bo p (mY p hv) hl hs
  rw [show AN p (mY p hv) = (mY p hv).iss from if_pos hv] at hc
  exact KD p _ _ _ _ hv hl hs (Hj p (mY p hv) hv hl hs) (GI p (mY p hv) (NG p hv) (C4 p hv) hv hl hs) hc (Lw p 3 hl hs)
theorem Ge (p:Prg) (hl:p.types.length ≤ 1000000) (hs:aT p.body ≤ 1000000):PC Tryz.prog 38 [b8 p] (fun r => r = .tup [iv ((Ki p).1:Int),bv (Ki p).2]):=by
 cases hv : bD p
 ·rw [NH p hv]; exact G3 p hv hl hs
 ·rw [Kb p hv]
  have hc := JN p (mY p hv) hl hs
  rw [show AN p (mY p hv) = (mY p hv).iss from if_pos hv] at hc
  exact JJ p _ _ _ _ hv hl hs (GG p (mY p hv) hv hl hs) (Gi p (mY p hv) (NG p hv) (C4 p hv) hv hl hs) hc (MA p 3 hl hs)
theorem OU (p:Prg) (hv:bD p = true):(Ki p).1 ≤ 3 ∧ ((Ki p).1 ≠ 3 → (Ki p).2 = true ∧ (mY p hv).iss = []):=by
 have h := Ml p hv
 rw [Kb p hv]
 refine ⟨h.1,fun h3 => ?_⟩
 have hi := h.2.1 h3
 exact ⟨KR (L := []) (fun _ => ⟨mY p hv,hi.symm⟩) (by rw [hv]; rfl) (by decide) (by decide),hi⟩
theorem Lc (bs:List UInt8) (hb:bs.length ≤ 1048576):PC Tryz.prog 36 [sl cU bs] (fun r => ∃ q:Prg,r = b8 q ∧ aT q.body ≤ 20000 ∧ q.types.length ≤ 1000):=by
 have hb2 : (bs.take 2000).length ≤ 2000 := by rw [List.length_take]; omega
 have h1 := fA (bs.take 2000) (0 + 1) 64
 have h2 := fA (bs.take 2000) (0 + 1 + 1) 64
 refine aC Tryz.func36 Tryz.ntmps36 ?_
 repeat' (first|(apply aF;first|(apply vK (k := 94);exact Po (bs.take 2000) (0 + 1) hb2 (by decide);rfl;rfl;rfl;rfl;rfl;(rintro ⟨q,p1⟩ ⟨hq1,hq2,hq3⟩);(dsimp only at hq1 hq2 hq3))|(apply vK (k := 93);exact II (bs.take 2000) p1 q hb2 (by omega) (by omega) (by omega);rfl;exact Pur.pf;rfl;rfl;rfl;(rintro ⟨q2,p2⟩ ⟨hr1,hr2,hr3⟩);(dsimp only at hr1 hr2 hr3))|(apply aA (k := 92);rfl;exact QY _ (by omega);(rfl);rfl)|(first|(apply DQ;rfl;(apply F9 <;> (assumption));rfl;rfl)|(apply l5;rfl;rfl;(rfl);(apply oU <;> (first|assumption|omega));rfl;rfl)))|refine aE ?_|(refine aK ?_ ?_ <;> intro hc hq <;> try (exfalso;omega))|fail)
 ·exact aD (l := [b8 (NO _)]) rfl ⟨⟨NO _,rfl,by rw [Nx]; decide,by show 4 ≤ 1000;decide⟩,Pur.pf⟩
 ·exact aD (l := [b8 q2]) rfl ⟨⟨q2,rfl,by omega,by omega⟩,Pur.pf⟩
theorem Qg (p:Prg) (hv:bD p = true) (hl:p.types.length ≤ 1000000) (hs:aT p.body ≤ 1000000):PC Tryz.prog 20 [b8 p] (fun r => r = bv (mY p hv).iss.isEmpty):=by
 have h := DA p (mY p hv) hl hs
 rw [hv,Bool.true_and,show AN p (mY p hv) = (mY p hv).iss from if_pos hv] at h
 exact h
theorem Mf {L:List Iss}:L.isEmpty = true ↔ L = [] := List.isEmpty_iff
theorem r8 (bs:List UInt8):PC Tryz.prog 7 [sl cU bs] (fun r => r = bv true):=by
 rcases Nat.lt_or_ge 1048576 bs.length with hb|hb
 ·refine aC Tryz.func7 Tryz.ntmps7 ?_
  repeat' (first|refine aE ?_|(refine aK ?_ ?_ <;> intro hc hq <;> try (exfalso;omega))|fail)
  exact aD rfl ⟨rfl,rfl⟩
 refine aC Tryz.func7 Tryz.ntmps7 ?_
 repeat' (first|(apply aF;first|((with_reducible apply kN (k := 36));(case ha => rfl);(case h => exact Lc bs hb);(case hp => (exact Pur.pf));(case hN => rfl);(rintro _ ⟨q,rfl,hq1,hq2⟩ _))|(with_reducible apply aY (d := 14)))|refine aE ?_|(refine aK ?_ ?_ <;> intro hc hq <;> try (exfalso;omega))|fail)
 refine bZ ?_
 have h1 := F2 q (by omega) (by omega)
 have h2 := Ge q (by omega) (by omega)
 have h3 := kY q (by omega) (by omega)
 cases hv : bD q with
 | false =>
  rw [hv] at h3
  generalize Ki q = J at *
  repeat' (first|(apply aF;first|((with_reducible apply aA (k := 37));(case ha => rfl);(case h => exact h1);(case hp => (exact Pur.pf));(case hN => rfl))|((with_reducible apply aA (k := 38));(case ha => rfl);(case h => exact h2);(case hp => (exact Pur.pf));(case hN => rfl))|((with_reducible apply aA (k := 39));(case ha => rfl);(case h => exact h3);(case hp => (exact Pur.pf));(case hN => rfl)))|refine aE ?_|(refine bS ?_ ?_ <;> intro hg hq <;> try (exfalso;omega))|fail)
  all_goals first
   | (exfalso;exact (by assumption : ¬ True) trivial)
   | (refine aD rfl ⟨?_,rfl⟩; simp only [aO,decide_true]; done)
 | true =>
  rw [hv] at h3
  have h6 := Qg q hv (by omega) (by omega)
  obtain ⟨o1,o2⟩ := OU q hv
  generalize Ki q = J at *
  rw [← Mf] at o2
  generalize (mY q hv).iss.isEmpty = L at *
  obtain ⟨n,sf⟩ := J
  dsimp only at *
  repeat' (first|(apply aF;first|((with_reducible apply aA (k := 37));(case ha => rfl);(case h => exact h1);(case hp => (exact Pur.pf));(case hN => rfl))|((with_reducible apply aA (k := 38));(case ha => rfl);(case h => exact h2);(case hp => (exact Pur.pf));(case hN => rfl))|((with_reducible apply aA (k := 39));(case ha => rfl);(case h => exact h3);(case hp => (exact Pur.pf));(case hN => rfl))|((with_reducible apply aA (k := 20));(case ha => rfl);(case h => exact h6);(case hp => (exact Pur.pf));(case hN => rfl)))|refine aE ?_|(refine bS ?_ ?_ <;> intro hg hq <;> try (exfalso;omega))|fail)
  all_goals first
   | (exfalso;exact (by assumption : ¬ True) trivial)
   | exact aD rfl ⟨rfl,rfl⟩
   | (refine aD rfl ⟨?_,rfl⟩; simp only [aO,decide_true]; done)
   | (refine aD rfl ⟨?_,rfl⟩; simp only [aO]; grind)
end Go.Proofs.YtahdccneecdmmaaGreat
