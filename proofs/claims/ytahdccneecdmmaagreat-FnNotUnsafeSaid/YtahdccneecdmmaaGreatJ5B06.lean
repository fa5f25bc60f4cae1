/-
 A part of the proofs over this program: rules and contracts of its functions (the contracts).
-/
import Derived.Test.YtahdccneecdmmaaGreatJ5B05
import Derived.Test.YtahdccneecdmmaaGreatRows
import Derived.WalkKit
import Derived.ProofKit
import Derived.OpenShut
import Derived.Carry
import Derived.ChangeSlices
set_option linter.unusedVariables false
set_option linter.unusedSimpArgs false
set_option maxHeartbeats 8000000
set_option maxRecDepth 4000
attribute [local irreducible] Go.AL.RW Go.AL.AW Go.AL.Stop
namespace Go.Proofs.YtahdccneecdmmaaGreat
open Go.AL Go.RowKit
variable {N : Nat} {Q : Exit → AS → Prop} {all : Array Oper} {rest : List Oper} {tsl : List (Nat × AV)} {hsl : List (Nat × Option (List AV))} {nidl : Nat} {z0 : Lo} {md : Md} {d : Nat} {ty : TypeId} {pos : String} {af : Array Edge} {tys : Array TypeId}
theorem OC (ts:List Int) (bd:List AL.Stmt) (pts:List Pnt) (s:Mc) (x:Pnt) (htl:ts.length ≤ 6) (hm:OkM s.cells) (hsl:s.slots.length = ts.length) (ho:x.op = 9 ∨ x.op = 10 ∨ x.op = 11):MC Tryz.prog 140 [.optr 0 0,dS x] [(0,some (mO ts bd pts 1 2 s)),(1,some (flat dC s.slots)),(2,some (flat cI s.read))] 3 (fun _:Unit => True) (fun _ => iv (dU ts s x).2) (fun _ => [(0,some (mO ts bd pts 1 2 (dU ts s x).1)),(1,some (flat dC (dU ts s x).1.slots)),(2,some (flat cI (dU ts s x).1.read))]):=by
 have hus := gJ ts bd pts x htl
 have hsm : Sm (wS ts x [1,2,3]) := bV (by omega)
 obtain ⟨L,hL⟩ : ∃ L,L = aZ (wS ts x [1,2,3]) := ⟨_,rfl⟩
 have hLl : L.length ≤ 62 := by rw [hL]; exact cC _
 have hmem : ∀ k, k < L.length → 0 ≤ L[k]! ∧ L[k]! < s.slots.length := fun k hk => by
  rw [hsl]; exact g7 (by rw [← hL]; exact aR _ _ hk)
 refine aU Tryz.func140 Tryz.ntmps140 ?_
 repeat' (first|(apply aF;first|(apply aA (k := 158);rfl;exact hus;exact Pur.pf;rfl)|(apply aA (k := 120);rfl;(apply fQ <;> (assumption));(rfl);rfl))|refine aE ?_|refine bQ ?_|fail)
 rw [← hL]
 refine aH (σ := Nat) [0,3,26,27] [0,1,2,3] (fun k => [(28,iv (k : Int))]) (fun k => []) (fun k => k ≤ L.length ∧ ∀ j,j < k → s.slots[(L[j]!).toNat]!.set = true) (fun k => L.length - k) (0) ⟨Nat.zero_le _,fun j h => absurd h (by omega)⟩ ?_
 rintro k ⟨hk,hall⟩
 by_cases hkn : k < L.length
 ·have hmk := hmem k hkn
  repeat' (first|refine aE ?_|(refine aK ?_ ?_ <;> intro hc hq <;> try (exfalso;omega))|fail)
  ·have hu : b7 ts s x = true := (cK htl).2 ⟨L[k]!, by rw [← hL]; exact aR _ _ hkn, by assumption⟩
   rw [vT hu]
   (refine aD rfl ?_; refine aS () trivial ?_ ⟨sE ?_,⟨sE ?_,⟨sE ?_,trivial⟩⟩⟩)
   ·rfl
   ·rfl
   ·rfl
   ·rfl
  ·(refine bC (k + 1) (Le.renA [(3, 3)]) ?_ ?_)
   ·refine ⟨by omega, fun j hj => ?_⟩
    rcases Nat.lt_or_ge j k with h|h
    ·exact hall j h
    ·rw [show j = k by omega]; assumption
   ·omega
 ·have hu : b7 ts s x = false := by
   cases q : b7 ts s x with
   | false => rfl
   | true =>
    obtain ⟨v,hv,hs⟩ := (cK htl).1 q
    rw [← hL] at hv
    obtain ⟨j,hj,e⟩ := List.getElem_of_mem hv
    have h1 := hall j (by omega)
    rw [a7 _ _ hj,e,hs] at h1;cases h1
  rw [rT hu]
  by_cases h11 : x.op = 11
  ·have hd : bO ts s x = cO ts ts.length 0 s := tN h11
   rw [hd]
   have hfi := NY ts bd pts s hm hsl (by omega)
   repeat' (first|(apply aF;(apply JZ (ts := ts) (bd := bd) (pts := pts) (s := s);rfl;rfl;rfl;rfl;rfl;exact hfi;rfl;rfl))|refine aE ?_|(refine aK ?_ ?_ <;> intro hc hq <;> try (exfalso;omega))|fail)
   (refine aD rfl ?_; refine aS () trivial ?_ ⟨sE ?_,⟨sE ?_,⟨sE ?_,trivial⟩⟩⟩)
   ·rfl
   ·rfl
   ·rfl
   ·rfl
  ·have hd : bO ts s x = (s, -1) := by unfold bO; rw [if_neg (show ¬ x.op = 1 by omega), if_neg (show ¬ x.op = 2 by omega), if_neg (show ¬ x.op = 3 by omega), if_neg (show ¬ (x.op = 4 ∨ x.op = 5) by omega), if_neg (show ¬ x.op = 6 by omega), if_neg (show ¬ x.op = 7 by omega), if_neg (show ¬ x.op = 8 by omega), if_neg (show ¬ x.op = 11 by omega)]
   rw [hd]
   repeat' (first|refine aE ?_|(refine aK ?_ ?_ <;> intro hc hq <;> try (exfalso;omega))|fail)
   (refine aD rfl ?_; refine aS () trivial ?_ ⟨sE ?_,⟨sE ?_,⟨sE ?_,trivial⟩⟩⟩)
   ·rfl
   ·rfl
   ·rfl
   ·rfl
theorem Nz (ts:List Int) (bd:List AL.Stmt) (pts:List Pnt) (s:Mc) (x:Pnt) (htl:ts.length ≤ 6) (hm:OkM s.cells) (hsl:s.slots.length = ts.length) (ho:x.op = 6) (hrl:s.read.length ≤ 1000) (hx:0 ≤ x.x ∧ x.x < ts.length) (hy:0 ≤ x.y ∧ x.y < ts.length) (hz:aY s.cells s.slots[x.y.toNat]!.ptr false = 0) (hun:b7 ts s x = false):MC Tryz.prog 140 [.optr 0 0,dS x] [(0,some (mO ts bd pts 1 2 s)),(1,some (flat dC s.slots)),(2,some (flat cI s.read))] 3 (fun _:Unit => True) (fun _ => iv (dU ts s x).2) (fun _ => [(0,some (mO ts bd pts 1 5 (dU ts s x).1)),(1,some (flat dC (dU ts s x).1.slots)),(5,some (flat cI (dU ts s x).1.read))]):=by
 have hus := gJ ts bd pts x htl
 have hsm : Sm (wS ts x [1,2,3]) := bV (by omega)
 obtain ⟨L,hL⟩ : ∃ L,L = aZ (wS ts x [1,2,3]) := ⟨_,rfl⟩
 have hLl : L.length ≤ 62 := by rw [hL]; exact cC _
 have hmem : ∀ k, k < L.length → 0 ≤ L[k]! ∧ L[k]! < s.slots.length := fun k hk => by
  rw [hsl]; exact g7 (by rw [← hL]; exact aR _ _ hk)
 refine aU Tryz.func140 Tryz.ntmps140 ?_
 repeat' (first|(apply aF;first|(apply aA (k := 158);rfl;exact hus;exact Pur.pf;rfl)|(apply aA (k := 120);rfl;(apply fQ <;> (assumption));(rfl);rfl))|refine aE ?_|refine bQ ?_|fail)
 rw [← hL]
 refine aH (σ := Nat) [0,3,26,27] [0,1,2,3] (fun k => [(28,iv (k : Int))]) (fun k => []) (fun k => k ≤ L.length ∧ ∀ j,j < k → s.slots[(L[j]!).toNat]!.set = true) (fun k => L.length - k) (0) ⟨Nat.zero_le _,fun j h => absurd h (by omega)⟩ ?_
 rintro k ⟨hk,hall⟩
 by_cases hkn : k < L.length
 ·have hmk := hmem k hkn
  repeat' (first|refine aE ?_|(refine aK ?_ ?_ <;> intro hc hq <;> try (exfalso;omega))|fail)
  ·exfalso
   have hu : b7 ts s x = true := (cK htl).2 ⟨L[k]!,by rw [← hL]; exact aR _ _ hkn,by assumption⟩
   rw [hun] at hu;cases hu
  ·(refine bC (k + 1) (Le.renA [(3, 3)]) ?_ ?_)
   ·refine ⟨by omega, fun j hj => ?_⟩
    rcases Nat.lt_or_ge j k with h|h
    ·exact hall j h
    ·rw [show j = k by omega]; assumption
   ·omega
 ·have hu : b7 ts s x = false := by
   cases q : b7 ts s x with
   | false => rfl
   | true =>
    obtain ⟨v,hv,hs⟩ := (cK htl).1 q
    rw [← hL] at hv
    obtain ⟨j,hj,e⟩ := List.getElem_of_mem hv
    have h1 := hall j (by omega)
    rw [a7 _ _ hj,e,hs] at h1;cases h1
  rw [rT hu]
  have hrc := rH s.cells hm s.slots[x.y.toNat]!.ptr
  have hp := mJ ts bd pts ⟨s.slots,cP s.cells s.slots[x.y.toNat]!.ptr false,s.read ++ [nL s.cells s.slots[x.y.toNat]!.ptr]⟩ x.x ⟨true,nL s.cells s.slots[x.y.toNat]!.ptr,⟨0,0⟩⟩ (hm.tch _ _) hsl hx
  have hd : bO ts s x = bH ts ⟨s.slots,cP s.cells s.slots[x.y.toNat]!.ptr false,s.read ++ [nL s.cells s.slots[x.y.toNat]!.ptr]⟩ x.x.toNat ⟨true,nL s.cells s.slots[x.y.toNat]!.ptr,⟨0,0⟩⟩ := by unfold bO;rw [if_neg (show ¬ x.op = 1 by omega),if_neg (show ¬ x.op = 2 by omega),if_neg (show ¬ x.op = 3 by omega),if_neg (show ¬ (x.op = 4 ∨ x.op = 5) by omega),if_pos ho,if_pos hz]
  rw [hd]
  rw [hz] at hrc
  repeat' (first|(apply aF;first|(apply iW;(case hx|hH => rfl);(case hf|hg|hα => infer_instance);(case hk => omega);(case hj => decide);(case hc => exact (rfl:_=[_,_]));(case h0|hN => rfl))|(apply aA (k := 202);rfl;exact hrc;exact Pur.pf;rfl)|(with_reducible apply aW (d := 184))|(apply aM (t := _);rfl;rfl;rfl;exact (rfl:_=some [_]);rfl;rfl))|refine aE ?_|(refine aK ?_ ?_ <;> intro hc hq <;> try (exfalso;omega))|refine bQ ?_|fail)
  refine b0 ?_
  rw [show s.read.length + 1 = (s.read ++ [nL s.cells s.slots[x.y.toNat]!.ptr]).length from by rw [List.length_append]; rfl]
  repeat' (first|(apply aF;(apply kL (ts := ts) (bd := bd) (pts := pts) (s := ⟨s.slots,cP s.cells s.slots[x.y.toNat]!.ptr false,s.read ++ [nL s.cells s.slots[x.y.toNat]!.ptr]⟩) (v := x.x) (y := ⟨true,nL s.cells s.slots[x.y.toNat]!.ptr,⟨0,0⟩⟩);rfl;rfl;rfl;rfl;rfl;rfl;rfl;exact hp;rfl;rfl))|refine aE ?_|fail)
  (refine aD rfl ?_; refine aS () trivial ?_ ⟨sE ?_,⟨sE ?_,⟨sE ?_,trivial⟩⟩⟩)
  ·rfl
  ·rfl
  ·rfl
  ·rfl
theorem Po (ts:List Int) (bd:List AL.Stmt) (pts:List Pnt) (s:Mc) (x:Pnt) (htl:ts.length ≤ 6) (hm:OkM s.cells) (hsl:s.slots.length = ts.length) (hun:b7 ts s x = true):MC Tryz.prog 140 [.optr 0 0,dS x] [(0,some (mO ts bd pts 1 2 s)),(1,some (flat dC s.slots)),(2,some (flat cI s.read))] 3 (fun _:Unit => True) (fun _ => iv (dU ts s x).2) (fun _ => [(0,some (mO ts bd pts 1 2 (dU ts s x).1)),(1,some (flat dC (dU ts s x).1.slots)),(2,some (flat cI (dU ts s x).1.read))]):=by
 have hus := gJ ts bd pts x htl
 have hsm : Sm (wS ts x [1,2,3]) := bV (by omega)
 obtain ⟨L,hL⟩ : ∃ L,L = aZ (wS ts x [1,2,3]) := ⟨_,rfl⟩
 have hLl : L.length ≤ 62 := by rw [hL]; exact cC _
 have hmem : ∀ k, k < L.length → 0 ≤ L[k]! ∧ L[k]! < s.slots.length := fun k hk => by
  rw [hsl]; exact g7 (by rw [← hL]; exact aR _ _ hk)
 refine aU Tryz.func140 Tryz.ntmps140 ?_
 repeat' (first|(apply aF;first|(apply aA (k := 158);rfl;exact hus;exact Pur.pf;rfl)|(apply aA (k := 120);rfl;(apply fQ <;> (assumption));(rfl);rfl))|refine aE ?_|refine bQ ?_|fail)
 rw [← hL]
 refine aH (σ := Nat) [0,3,26,27] [0,1,2,3] (fun k => [(28,iv (k : Int))]) (fun k => []) (fun k => k ≤ L.length ∧ ∀ j,j < k → s.slots[(L[j]!).toNat]!.set = true) (fun k => L.length - k) (0) ⟨Nat.zero_le _,fun j h => absurd h (by omega)⟩ ?_
 rintro k ⟨hk,hall⟩
 by_cases hkn : k < L.length
 ·have hmk := hmem k hkn
  repeat' (first|refine aE ?_|(refine aK ?_ ?_ <;> intro hc hq <;> try (exfalso;omega))|fail)
  ·have hu : b7 ts s x = true := (cK htl).2 ⟨L[k]!, by rw [← hL]; exact aR _ _ hkn, by assumption⟩
   rw [vT hu]
   (refine aD rfl ?_; refine aS () trivial ?_ ⟨sE ?_,⟨sE ?_,⟨sE ?_,trivial⟩⟩⟩)
   ·rfl
   ·rfl
   ·rfl
   ·rfl
  ·(refine bC (k + 1) (Le.renA [(3, 3)]) ?_ ?_)
   ·refine ⟨by omega, fun j hj => ?_⟩
    rcases Nat.lt_or_ge j k with h|h
    ·exact hall j h
    ·rw [show j = k by omega]; assumption
   ·omega
 ·have hu : b7 ts s x = false := by
   cases q : b7 ts s x with
   | false => rfl
   | true =>
    obtain ⟨v,hv,hs⟩ := (cK htl).1 q
    rw [← hL] at hv
    obtain ⟨j,hj,e⟩ := List.getElem_of_mem hv
    have h1 := hall j (by omega)
    rw [a7 _ _ hj,e,hs] at h1;cases h1
  rw [rT hu]
  rw [hun] at hu;cases hu
theorem KI {ts:List Int}{bd:List AL.Stmt}{pts:List Pnt}{s:Mc}{x:Pnt}{x0 x1:Operand}{i0 i1 i2:Nat}(ha0:ev (lk tsl) x0 = some (.optr i0 0)) (ha1:ev (lk tsl) x1 = some (dS x)) (hH0:aQ hsl i0 = some (mO ts bd pts i1 i2 s)) (hH1:aQ hsl i1 = some (flat dC s.slots)) (hH2:aQ hsl i2 = some (flat cI s.read)) (hdd:Go.AL.distinct [i0,i1,i2] = true) (hmc:MC Tryz.prog 140 [.optr 0 0,dS x] [(0,some (mO ts bd pts 1 2 s)),(1,some (flat dC s.slots)),(2,some (flat cI s.read))] 3 (fun _:Unit => True) (fun _ => iv (dU ts s x).2) (fun _ => [(0,some (mO ts bd pts 1 5 (dU ts s x).1)),(1,some (flat dC (dU ts s x).1.slots)),(5,some (flat cI (dU ts s x).1.read))])) (hM:Nat.ble (nidl + 3) aT = true) (hN:Nat.blt d N = true){md':Md}[hmd:MdA md (fJ [x0,x1] ++ [.inr i0,.inr i1,.inr i2]) (List.map Sum.inr (List.map Prod.fst ([(i0,some (mO ts bd pts i1 (nidl + 2) (dU ts s x).1)),(i1,some (flat dC (dU ts s x).1.slots)),((nidl + 2),some (flat cI (dU ts s x).1.read)),(i2,none)]:List (Nat × Option (List AV)))) ++ [.inl d]) md'] (kk:RW Tryz.prog N all Q md' rest ⟨(d,iv (dU ts s x).2) :: tsl,iA hsl [(i0,some (mO ts bd pts i1 (nidl + 2) (dU ts s x).1)),(i1,some (flat dC (dU ts s x).1.slots)),((nidl + 2),some (flat cI (dU ts s x).1.read)),(i2,none)],nidl + 3,z0⟩):RW Tryz.prog N all Q md (⟨some d,.call ⟨.value (.func 140),#[x0,x1],tys⟩,ty,pos,af,none⟩ :: rest) ⟨tsl,hsl,nidl,z0⟩:=by
 exact a6 (l := [x0,x1]) [i0,i1,i2] 6 [(i0,some (mO ts bd pts i1 (nidl + 2) (dU ts s x).1)),(i1,some (flat dC (dU ts s x).1.slots)),((nidl + 2),some (flat cI (dU ts s x).1.read)),(i2,none)] hmc (avs := [.optr i0 0,dS x]) (by simp only [evL,ha0,ha1]) hdd hM hN (md' := md') (hmd := hmd) kk
theorem OQ (ts:List Int) (bd:List AL.Stmt) (pts:List Pnt) (s:Mc) (x:Pnt) (htl:ts.length ≤ 6) (hm:OkM s.cells) (hsl:s.slots.length = ts.length) (hop:1 ≤ x.op ∧ x.op ≤ 11) (hrl:s.read.length ≤ 1000)
  (hx : x.op ≤ 8 → 0 ≤ x.x ∧ x.x < ts.length) (hy : 3 ≤ x.op → x.op ≤ 7 → 0 ≤ x.y ∧ x.y < ts.length) (hn : x.op = 2 → 0 ≤ x.n ∧ x.n ≤ 9) (h6 : ¬ (x.op = 6 ∧ aY s.cells s.slots[x.y.toNat]!.ptr false = 0 ∧ b7 ts s x = false)) : MC Tryz.prog 140 [.optr 0 0,dS x] [(0,some (mO ts bd pts 1 2 s)),(1,some (flat dC s.slots)),(2,some (flat cI s.read))] 3 (fun _ : Unit => True) (fun _ => iv (dU ts s x).2) (fun _ => [(0,some (mO ts bd pts 1 2 (dU ts s x).1)),(1,some (flat dC (dU ts s x).1.slots)),(2,some (flat cI (dU ts s x).1.read))]) := by
 by_cases h1 : x.op = 1
 ·exact OM ts bd pts s x htl hm hsl h1 (hx (by omega))
 by_cases h2 : x.op = 2
 ·exact Ow ts bd pts s x htl hm hsl h2 (hn h2) (hx (by omega))
 by_cases h3 : x.op = 3
 ·exact OO ts bd pts s x htl hm hsl h3 (hx (by omega)) (hy (by omega) (by omega))
 by_cases h4 : x.op = 4 ∨ x.op = 5
 ·exact Ns ts bd pts s x htl hm hsl h4 (hx (by omega)) (hy (by omega) (by omega))
 by_cases h6' : x.op = 6
 ·by_cases hu : b7 ts s x = true
  ·exact Po ts bd pts s x htl hm hsl hu
  ·exact Pe ts bd pts s x htl hm hsl h6' hrl (hx (by omega)) (hy (by omega) (by omega)) (fun q => h6 ⟨h6',q,by simpa using hu⟩)
 by_cases h7 : x.op = 7
 ·exact OR ts bd pts s x htl hm hsl h7 (hx (by omega)) (hy (by omega) (by omega))
 by_cases h8 : x.op = 8
 ·exact Ph ts bd pts s x htl hm hsl h8 (hx (by omega))
 ·exact OC ts bd pts s x htl hm hsl (by omega)
theorem CX (x:Pnt) (h:x.next.length ≤ 1000000):PC Tryz.prog 91 [dS x] (fun r => r = bv (decide (x.next.length = 2))):=by
 refine aC Tryz.func91 Tryz.ntmps91 ?_
 repeat' (first|refine aE ?_|fail)
 refine aD rfl ⟨?_,rfl⟩
 simp only [aN,AV.v.injEq,Value.bool.injEq,decide_eq_decide]; omega
theorem Ps {pts:List Pnt}{a:Nat}{C:List Int}(h:pts[a]!.next.length = 2) (hC:0 < C.length):gM pts a C = ((pts[a]!.next[(C[0]! % 2).toNat]!).toNat,C.drop 1):=by
 cases C with
 | nil => simp at hC
 | cons c C => unfold gM;rw [if_pos h]; rfl
theorem O3 {pts:List Pnt}{a:Nat}(h:pts[a]!.next.length = 2):gM pts a [] = ((pts[a]!.next[1]!).toNat,[]) := by unfold gM;rw [if_pos h]
theorem HC {pts:List Pnt}{n a b:Nat}{out C C2:List Int}{q:List Int × Bool}(h:¬ pts[a]!.op = 11) (ho:out.length ≤ n) (hs:gM pts a C = (b,C2)) (hq:q = (out ++ (wm pts (n - out.length) a C).1,(wm pts (n - out.length) a C).2)) :
  ((out ++ [(a : Int)]).length ≤ n ∧ q = ((out ++ [(a : Int)]) ++ (wm pts (n - (out ++ [(a : Int)]).length) b C2).1,(wm pts (n - (out ++ [(a : Int)]).length) b C2).2)) ∨ ((out ++ [(a : Int)]).length = n + 1 ∧ q = ((out ++ [(a : Int)]).take n,false)) := by
 have hl : (out ++ [(a : Int)]).length = out.length + 1 := by rw [List.length_append]; rfl
 rcases Nat.lt_or_ge out.length n with h1|h1
 ·exact .inl ⟨by omega,pD h h1 hs hq⟩
 ·refine .inr ⟨by omega, ?_⟩
  have e : out.length = n := by omega
  rw [hq,e,Nat.sub_self,HX h,← e,List.take_left' rfl,List.append_nil]
theorem Nc (ts:List Int) (bd:List AL.Stmt) (pts:List Pnt) (cs:List Int) (n:Nat) (w:WG ts pts) (wa:WA ts pts) (hn:n ≤ 1000) (hcl:cs.length ≤ 1000000):PC Tryz.prog 139 [aG ts bd pts,sl cI cs,iv (n:Int)] (fun r => r = .tup [sl cI (wm pts n 0 cs).1,bv (wm pts n 0 cs).2]):=by
 have hpl := w.pl
 have hp0 := w.p0
 refine aC Tryz.func139 Tryz.ntmps139 ?_
 repeat' (first|(apply aF;(apply fC (d := 8) (e := 1);rfl;rfl))|refine aE ?_|fail)
 refine aH (σ := Int × List Int × Nat × List Int) [0,2] [] (fun k => [(9,iv k.1),(1,sl cI k.2.2.2),(8,.own 0 0 k.2.2.1 1)]) (fun k => [(0,some (flat cI k.2.1))]) (fun k => (0 ≤ k.1 ∧ k.1 < pts.length) ∧ k.2.2.1 = k.2.1.length ∧ k.2.2.2.length ≤ 1000000 ∧ ((k.2.1.length ≤ n ∧ wm pts n 0 cs = (k.2.1 ++ (wm pts (n - k.2.1.length) k.1.toNat k.2.2.2).1,(wm pts (n - k.2.1.length) k.1.toNat k.2.2.2).2)) ∨ (k.2.1.length = n + 1 ∧ wm pts n 0 cs = (k.2.1.take n,false)))) (fun k => n + 1 - k.2.1.length) (0,[],0,cs) ⟨⟨Int.le_refl _,by show (0 : Int) < _; omega⟩,rfl,hcl,.inl ⟨Nat.zero_le _,rfl⟩⟩ ?_
 rintro ⟨a,out,m,C⟩ ⟨⟨ha0,ha⟩,hm,hC,hw⟩
 dsimp only at ha0 ha hm hC hw ⊢
 by_cases hout : out.length ≤ n
 ·have hw2 : wm pts n 0 cs = (out ++ (wm pts (n - out.length) a.toNat C).1, (wm pts (n - out.length) a.toNat C).2) := by
   rcases hw with h|h
   ·exact h.2
   ·omega
  have hat : (a.toNat : Int) = a := Int.toNat_of_nonneg ha0
  have hnx := w.nx a.toNat (by omega)
  have hnl := w.nl a.toNat (by omega)
  have hn1 := wa.n a.toNat (by omega)
  have hk : ∀ k,k < pts[a.toNat]!.next.length → 0 ≤ pts[a.toNat]!.next[k]! ∧ pts[a.toNat]!.next[k]! < pts.length := fun k h => hnx _ (aR _ _ h)
  have hch := CX pts[a.toNat]! (by omega)
  repeat' (first|(apply aF;first|(apply aA (k := 91);rfl;exact hch;exact Pur.pf;rfl)|(apply Ks;rfl;rfl;rfl)|(apply aM (t := _);rfl;rfl;rfl;exact (rfl:_=some [_]);rfl;rfl))|refine aE ?_|(refine aK ?_ ?_ <;> intro hc hq <;> try (exfalso;omega))|refine bQ ?_|fail)
  ·have hop : pts[a.toNat]!.op = 11 := by assumption
   have e : wm pts n 0 cs = (out ++ [a],true) := by rw [hw2,G9 hop,hat]
   rw [e]
   (refine aV (Le.frzD (d := 6) (i := 2) rfl rfl) ?_; refine aD rfl ?_)
   refine ⟨?_,(by exact Pur.pf)⟩
   simp only [aN,sl]
   rw [hm,List.length_append]; rfl
  ·have hop : ¬ pts[a.toNat]!.op = 11 := by assumption
   have hst := HC hop hout (LN (by omega)) hw2
   rw [hat] at hst
   have hk := hk 0 (by omega)
   (refine bC (pts[a.toNat]!.next[0]!,_,_,C) (Le.renA [(0,2)]) ?_ ?_)
   ·exact ⟨hk,by dsimp only;rw [List.length_append,hm]; rfl,hC,hst⟩
   ·dsimp only;rw [List.length_append]; simp only [List.length_singleton]; omega
  ·have hop : ¬ pts[a.toNat]!.op = 11 := by assumption
   have hC0 : 0 < C.length := by omega
   have hst := HC hop hout (Ps (by omega) hC0) hw2
   rw [hat] at hst
   have hk := hk (C[0]! % 2).toNat (by omega)
   have hCe : List.take (C.length - Int.toNat 1) (List.drop (Int.toNat 1) C) = C.drop 1 := List.take_of_length_le (by rw [List.length_drop]; exact Nat.le_refl _)
   rw [hCe]
   (refine bC (pts[a.toNat]!.next[(C[0]! % 2).toNat]!,_,_,C.drop 1) (Le.renA [(0,2)]) ?_ ?_)
   ·exact ⟨hk,by dsimp only;rw [List.length_append,hm]; rfl,by dsimp only;rw [List.length_drop]; omega,hst⟩
   ·dsimp only;rw [List.length_append]; simp only [List.length_singleton]; omega
  ·have hop : ¬ pts[a.toNat]!.op = 11 := by assumption
   have hC0 : C = [] := List.eq_nil_of_length_eq_zero (by omega)
   subst hC0
   have hst := HC hop hout (O3 (by omega)) hw2
   rw [hat] at hst
   have hk := hk 1 (by omega)
   (refine bC (pts[a.toNat]!.next[1]!,_,_,[]) (Le.renA [(0,2)]) ?_ ?_)
   ·exact ⟨hk,by dsimp only;rw [List.length_append,hm]; rfl,hC,hst⟩
   ·dsimp only;rw [List.length_append]; simp only [List.length_singleton]; omega
 ·have hw2 : out.length = n + 1 ∧ wm pts n 0 cs = (out.take n, false) := by
   rcases hw with h|h
   ·omega
   ·exact h
  repeat' (first|(apply aF;(apply jK (d := 59) (l := 0) (h := n);rfl;rfl;rfl;exact qH rfl (by omega);exact if_pos (by omega);rfl))|refine aE ?_|(refine aK ?_ ?_ <;> intro hc hq <;> try (exfalso;omega))|fail)
  refine aV (Le.cut (i := 0) (n * 1) rfl) ?_
  refine aV (Le.frzD (d := 6) (i := 0) rfl rfl) ?_
  rw [hw2.2,eR cI (e := 1)]
  refine aD (l := [.imm (n - 0) (flat cI (out.take n)),bv false]) rfl ⟨?_,(by exact Pur.pf)⟩
  rw [eT (by rw [List.length_take]; omega)]
  rfl
theorem KW {p:Prg}{cs:List Int}{n:Int}{x0 x1 x2:Operand}(ha0:ev (lk tsl) x0 = some (cE p)) (ha1:ev (lk tsl) x1 = some (sl cI cs)) (ha2:ev (lk tsl) x2 = some (iv n)) (hmc:MC Tryz.prog 69 [cE p,sl cI cs,iv n] [] 0 (fun _:Unit => True) (fun _ => .tup [.optr 1 0,iv 5,iv 0]) (fun _ => [(1,some ([.v (.pointer none),.imm 0 [],.imm 0 [],.imm 0 []]))])) (hM:Nat.ble (nidl + 2) aT = true) (hN:Nat.blt d N = true){md':Md}[hmd:MdA md (fJ [x0,x1,x2] ++ []) (List.map Sum.inr (List.map Prod.fst ([((nidl + 1),some ([.v (.pointer none),.imm 0 [],.imm 0 [],.imm 0 []]))]:List (Nat × Option (List AV)))) ++ [.inl d]) md'] (kk:RW Tryz.prog N all Q md' rest ⟨(d,.tup [.optr (nidl + 1) 0,iv 5,iv 0]) :: tsl,iA hsl [((nidl + 1),some ([.v (.pointer none),.imm 0 [],.imm 0 [],.imm 0 []]))],nidl + 2,z0⟩):RW Tryz.prog N all Q md (⟨some d,.call ⟨.value (.func 69),#[x0,x1,x2],tys⟩,ty,pos,af,none⟩ :: rest) ⟨tsl,hsl,nidl,z0⟩:=by
 exact a6 (l := [x0,x1,x2]) [] 2 [((nidl + 1),some ([.v (.pointer none),.imm 0 [],.imm 0 [],.imm 0 []]))] hmc (avs := [cE p,sl cI cs,iv n]) (by simp only [evL,ha0,ha1,ha2]) rfl hM hN (md' := md') (hmd := hmd) kk
theorem Le.nilMid {ts:List (Nat × AV)}{hs:List (Nat × Option (List AV))}{n:Nat}{z0:Lo}{i:Nat}(c1:List AV){c2:List AV}(hi:aQ hs i = some (c1 ++ .v (.slice none 0 0) :: c2)) :
  Le ⟨ts,hs,n,z0⟩ ⟨ts,(i,some (c1 ++ .imm 0 [] :: c2)) :: hs,n,z0⟩ :=
 Le.cells hi (by simp) fun w bad ι b β h => rX (fun y hy => by have := p9 (av := .v (.slice none 0 0)) hy;exact this) c1 c2 b β h
theorem MM {ts:List Int}{pts:List Pnt}{a last:Nat}{l:List Nat}{s:Mc}:gL ts pts (a :: l) s last = if (dU ts s pts[a]!).2 = -1 then gL ts pts l (dU ts s pts[a]!).1 a else ((dU ts s pts[a]!).1,(dU ts s pts[a]!).2,a):=by
 rw [gL]
 by_cases h : b7 ts s pts[a]! = true
 ·rw [if_pos h,vT h,if_neg (show ¬ (2 : Int) = -1 by decide)]
 ·have h2 : b7 ts s pts[a]! = false := by simpa using h
  rw [if_neg h,rT h2]
theorem OE {ts:List Int}{nt:Nat}{s:Mc}(h:OkS nt s){x:Pnt}(hx:PtN x):OkS nt (dU ts s x).1:=by
 unfold dU;split
 ·exact h
 ·exact h.do hx
theorem KX {ts:List Int}{s:Mc}{x:Pnt}:(dU ts s x).1.read.length ≤ s.read.length + 1:=by
 unfold dU;split
 ·dsimp only;omega
 ·exact Bd
theorem PX {ts:List Int}{s:Mc}{x:Pnt}(ho:x.op = 6) (hz:aY s.cells s.slots[x.y.toNat]!.ptr false = 0) (hu:b7 ts s x = false) (ht:ts[x.x.toNat]! = 1):(dU ts s x).2 = -1:=by
 rw [rT hu]
 unfold bO
 rw [if_neg (show ¬ x.op = 1 by omega),if_neg (show ¬ x.op = 2 by omega),if_neg (show ¬ x.op = 3 by omega),if_neg (show ¬ (x.op = 4 ∨ x.op = 5) by omega),if_pos ho,if_pos hz]
 unfold bH
 rw [if_neg (fun h => by have := h.1;omega)]
theorem Oc (p:Prg) (cs:List Int) (n:Int) (hl:p.types.length ≤ 1000000) (hs:bE p.body ≤ 1000000) (hr:Bp p n = false):MC Tryz.prog 69 [cE p,sl cI cs,iv n] [] 0 (fun _:Unit => True) (fun _ => .tup [.optr 1 0,iv 5,iv 0]) (fun _ => [(1,some ([.v (.pointer none),.imm 0 [],.imm 0 [],.imm 0 []]))]):=by
 have hg := iT p hl hs
 unfold Bp at hr
 by_cases hv : bD p = true
 ·rw [if_pos hv] at hg
  rw [hv] at hr
  have hnn : ¬ (0 ≤ n ∧ n ≤ 150) := fun h => by rw [decide_eq_true h.1,decide_eq_true h.2] at hr;cases hr
  refine aU Tryz.func69 Tryz.ntmps69 ?_
  repeat' (first|(apply aF;first|(apply aA (k := 72);rfl;exact hg;exact Pur.pf;rfl)|(apply aA (k := 54);rfl;(apply dG);(rfl);rfl))|refine aE ?_|(refine aK ?_ ?_ <;> intro hc hq <;> try (exfalso;omega))|fail)
  ·(refine aD rfl ?_; refine aS () trivial ?_ ⟨sE ?_, trivial⟩)
   ·rfl
   ·rfl
 ·rw [if_neg hv] at hg
  refine aU Tryz.func69 Tryz.ntmps69 ?_
  repeat' (first|(apply aF;(apply aA (k := 72);rfl;exact hg;exact Pur.pf;rfl))|refine aE ?_|fail)
  (refine aD rfl ?_; refine aS () trivial ?_ ⟨sE ?_,trivial⟩)
  ·rfl
  ·rfl
theorem Om (p:Prg) (cs:List Int) (n:Nat) (q:Mc × Int × Nat) (hqq:q = dL p.types (aB p) cs n) (hv:bD p = true) (hl:p.types.length ≤ 1000000) (hs:bE p.body ≤ 1000000) (hn:n ≤ 150) (hcl:cs.length ≤ 1000000):MC Tryz.prog 69 [cE p,sl cI cs,iv (n:Int)] [] 0 (fun _:Unit => True) (fun _ => .tup [.optr 2 0,iv q.2.1,iv (q.2.2:Int)]) (fun _ => [(2,some (mO p.types p.body (aB p) 1 3 q.1)),(1,some (flat dC q.1.slots)),(3,some (flat cI q.1.read))]):=by
 have hg := iT p hl hs
 rw [if_pos hv] at hg
 have w := WG.of_valid hv
 have wa := WA.of_valid hv
 have hru := Nc p.types p.body (aB p) cs n w wa (by omega) hcl
 have htl := w.tl
 have hpl := w.pl
 have hL := CU w wa n 0 cs w.p0
 have hLl := rZ (pts := aB p) n 0 cs
 unfold dL at hqq
 unfold wm at hru
 obtain ⟨L,hLe⟩ : ∃ L,L = (dJ (aB p) n 0 cs).1 := ⟨_,rfl⟩
 obtain ⟨dn,hdn⟩ : ∃ dn,dn = (dJ (aB p) n 0 cs).2 := ⟨_,rfl⟩
 rw [← hLe,← hdn] at hru
 rw [← hLe] at hqq hL hLl
 have hgx : ∀ i,i < L.length → (L.map (fun a : Nat => (a : Int)))[i]! = (L[i]! : Int) := fun i h => by rw [a7 _ _ (by rw [List.length_map]; exact h),List.getElem_map,a7 _ _ h]
 have hml : (L.map (fun a : Nat => (a : Int))).length = L.length := List.length_map _
 generalize (L.map (fun a : Nat => (a : Int))) = LI at *
 generalize hP : aB p = pts at *
 refine aU Tryz.func69 Tryz.ntmps69 ?_
 repeat' (first|(apply aF;first|(apply aA (k := 72);rfl;exact hg;exact Pur.pf;rfl)|(with_reducible apply aW (d := 40))|(apply aA (k := 54);rfl;(apply dG);(rfl);rfl))|refine aE ?_|(refine aK ?_ ?_ <;> intro hc hq <;> try (exfalso;omega))|fail)
 refine b0 ?_
 rw [show (List.replicate p.types.length ([Value.bool false,Value.int .i64 0,Value.int .i64 0,Value.int .i64 0].map AV.v)).flatten = flat dC (List.replicate p.types.length fZ) from sZ rfl]
 apply oP
 case hl => rfl
 case hf => exact (rfl:_=some [_,_,AV.v (.slice none 0 0),AV.v (.slice none 0 0)])
 case hN => rfl
 repeat' (first|(apply aF;(with_reducible apply aW (d := 43)))|refine aE ?_|fail)
 refine b0 (c8 ?_ (Le.nilMid (i := 2) [_,_] rfl))
 refine c8 ?_ (Le.nilCell (i := 2) 1 [_,_,_] rfl (by decide) (by decide))
 repeat' (first|(apply aF;(apply aA (k := 139);rfl;exact hru;exact Pur.pf;rfl))|refine aE ?_|fail)
 refine aH (σ := Nat × Mc × Nat) [9,11,49,50] [] (fun k => [(51,iv (k.1 : Int)),(14,iv (k.2.2 : Int))]) (fun k => [(2,some (mO p.types p.body pts 1 3 k.2.1)),(1,some (flat dC k.2.1.slots)),(3,some (flat cI k.2.1.read))]) (fun k => k.1 ≤ L.length ∧ gL p.types pts (L.drop k.1) k.2.1 k.2.2 = q ∧ OkS p.types.length k.2.1 ∧ k.2.1.read.length ≤ k.1) (fun k => L.length - k.1) (0,mc0 p.types.length,0) ⟨Nat.zero_le _,hqq.symm,OkS.mc0 _,Nat.le_refl _⟩ ?_
 rintro ⟨i,s,last⟩ ⟨hi,hf,hok,hrd⟩
 dsimp only at hi hf hok hrd ⊢
 by_cases hiL : i < L.length
 ·have hap := hL L[i]! (aR _ _ hiL)
  have hop := w.op L[i]! hap
  have hwx := w.x L[i]! hap
  have hwy := w.y L[i]! hap
  have hA := wa.a L[i]! hap
  have hg2 := hgx i hiL
  have hdr : L.drop i = L[i]! :: L.drop (i + 1) := by rw [List.drop_eq_getElem_cons hiL,a7 _ _ hiL]
  rw [hdr,MM] at hf
  have hpt : PtN pts[L[i]!]! := ⟨fun h => hA.n (.inr h)⟩
  have hdo := OE (ts := p.types) hok hpt
  have hdr2 := KX (ts := p.types) (s := s) (x := pts[L[i]!]!)
  by_cases h6 : pts[L[i]!]!.op = 6 ∧ aY s.cells s.slots[(pts[L[i]!]!).y.toNat]!.ptr false = 0 ∧ b7 p.types s pts[L[i]!]! = false
  ·have hm6 := Nz p.types p.body pts s pts[L[i]!]! htl hok.m hok.l h6.1 (by omega) (by omega) (by omega) h6.2.1 h6.2.2
   repeat' (first|(apply aF;(with_reducible apply aW (d := 16)))|refine aE ?_|(refine aK ?_ ?_ <;> intro hc hq <;> try (exfalso;omega))|fail)
   refine b0 ?_
   rw [hg2]
   repeat' (first|(apply aF;(apply KI (ts := p.types) (bd := p.body) (pts := pts) (s := s) (x := pts[L[i]!]!);rfl;rfl;rfl;rfl;rfl;rfl;exact hm6;rfl;rfl))|refine aE ?_|(refine aK ?_ ?_ <;> intro hc hq <;> try (exfalso;omega))|fail)
   ·exfalso
    have h9 : ¬ (dU p.types s pts[L[i]!]!).2 = -1 := by assumption
    exact h9 (PX h6.1 h6.2.1 h6.2.2 (hA.t6 h6.1).1)
   ·(refine bC (i + 1, (dU p.types s pts[L[i]!]!).1, L[i]!) (Le.renA [(1, 1), (2, 2), (3, 6)]) ?_ ?_)
    ·refine ⟨by dsimp only; omega, ?_, hdo, by dsimp only; omega⟩
     dsimp only
     rw [if_pos (by assumption)] at hf
     exact hf
    ·dsimp only;omega
  ·have hmd := OQ p.types p.body pts s pts[L[i]!]! htl hok.m hok.l hop (by omega) (fun h => by omega) (fun h h2 => by omega) (fun h => hA.n (.inr h)) h6
   repeat' (first|(apply aF;(with_reducible apply aW (d := 16)))|refine aE ?_|(refine aK ?_ ?_ <;> intro hc hq <;> try (exfalso;omega))|fail)
   refine b0 ?_
   rw [hg2]
   repeat' (first|(apply aF;(apply Nk (ts := p.types) (bd := p.body) (pts := pts) (s := s) (x := pts[L[i]!]!);rfl;rfl;rfl;rfl;rfl;rfl;exact hmd;rfl;rfl))|refine aE ?_|(refine aK ?_ ?_ <;> intro hc hq <;> try (exfalso;omega))|fail)
   ·have h9 : ¬ (dU p.types s pts[L[i]!]!).2 = -1 := by assumption
    rw [if_neg h9] at hf
    rw [← hf]
    (refine aD rfl ?_; refine aS () trivial ?_ ⟨sE ?_,⟨sE ?_,⟨sE ?_,trivial⟩⟩⟩)
    ·rfl
    ·rfl
    ·rfl
    ·rfl
   ·(refine bC (i + 1, (dU p.types s pts[L[i]!]!).1, L[i]!) (Le.renA [(1, 1), (2, 2), (3, 3)]) ?_ ?_)
    ·refine ⟨by dsimp only; omega, ?_, hdo, by dsimp only; omega⟩
     dsimp only
     rw [if_pos (by assumption)] at hf
     exact hf
    ·dsimp only;omega
 ·repeat' (first | refine aE ?_ | (refine aK ?_ ?_ <;> intro hc hq <;> try (exfalso; omega))|fail)
  have hie : i = L.length := by omega
  have hq2 : q = (s,1,last) := by rw [← hf,hie,List.drop_length]; rfl
  rw [hq2]
  (refine aD rfl ?_; refine aS () trivial ?_ ⟨sE ?_,⟨sE ?_,⟨sE ?_,trivial⟩⟩⟩)
  ·rfl
  ·rfl
  ·rfl
  ·rfl
theorem IC {p:Prg}{cs:List Int}{n:Int}{q:Mc × Int × Nat}{x0 x1 x2:Operand}(ha0:ev (lk tsl) x0 = some (cE p)) (ha1:ev (lk tsl) x1 = some (sl cI cs)) (ha2:ev (lk tsl) x2 = some (iv n)) (hmc:MC Tryz.prog 69 [cE p,sl cI cs,iv n] [] 0 (fun _:Unit => True) (fun _ => .tup [.optr 2 0,iv q.2.1,iv (q.2.2:Int)]) (fun _ => [(2,some (mO p.types p.body (aB p) 1 3 q.1)),(1,some (flat dC q.1.slots)),(3,some (flat cI q.1.read))])) (hM:Nat.ble (nidl + 4) aT = true) (hN:Nat.blt d N = true){md':Md}[hmd:MdA md (fJ [x0,x1,x2] ++ []) (List.map Sum.inr (List.map Prod.fst ([((nidl + 2),some (mO p.types p.body (aB p) (nidl + 1) (nidl + 3) q.1)),((nidl + 1),some (flat dC q.1.slots)),((nidl + 3),some (flat cI q.1.read))]:List (Nat × Option (List AV)))) ++ [.inl d]) md'] (kk:RW Tryz.prog N all Q md' rest ⟨(d,.tup [.optr (nidl + 2) 0,iv q.2.1,iv (q.2.2:Int)]) :: tsl,iA hsl [((nidl + 2),some (mO p.types p.body (aB p) (nidl + 1) (nidl + 3) q.1)),((nidl + 1),some (flat dC q.1.slots)),((nidl + 3),some (flat cI q.1.read))],nidl + 4,z0⟩):RW Tryz.prog N all Q md (⟨some d,.call ⟨.value (.func 69),#[x0,x1,x2],tys⟩,ty,pos,af,none⟩ :: rest) ⟨tsl,hsl,nidl,z0⟩:=by
 exact a6 (l := [x0,x1,x2]) [] 4 [((nidl + 2),some (mO p.types p.body (aB p) (nidl + 1) (nidl + 3) q.1)),((nidl + 1),some (flat dC q.1.slots)),((nidl + 3),some (flat cI q.1.read))] hmc (avs := [cE p,sl cI cs,iv n]) (by simp only [evL,ha0,ha1,ha2]) rfl hM hN (md' := md') (hmd := hmd) kk
theorem wA (p:Prg) (cs:List Int) (most:Int) (hl:p.types.length ≤ 1000000) (hs:bE p.body ≤ 1000000) (hcl:cs.length ≤ 1000000):PC Tryz.prog 35 [cE p,sl cI cs,iv most] (fun r => r = .tup (if Bp p most = true then [iv (dL p.types (aB p) cs most.toNat).2.1,iv (dL p.types (aB p) cs most.toNat).2.2] else [iv 5,iv 0])):=by
 by_cases h : Bp p most = true
 ·have h' := h
  unfold Bp at h'
  simp only [Bool.and_eq_true,decide_eq_true_eq] at h'
  obtain ⟨hv,h0,h1⟩ := h'
  have hru := Om p cs most.toNat _ rfl hv hl hs (by omega) hcl
  have hok := NW (cs := cs) (n := most.toNat) hv
  have hrl := B2 (ts := p.types) (pts := aB p) (cs := cs) (n := most.toNat) (by omega)
  have htl := (WG.of_valid hv).tl
  rw [Int.toNat_of_nonneg h0] at hru
  rw [if_pos h]
  have hon := Int.toNat_of_nonneg h0
  have hm := hok.m
  have hml := hm.l
  have hsl := hok.l
  generalize dL p.types (aB p) cs most.toNat = q at *
  refine aC Tryz.func35 Tryz.ntmps35 ?_
  repeat' (first|(apply aF;(apply IC (p := p) (cs := cs) (n := most) (q := q);rfl;rfl;rfl;exact hru;rfl;rfl))|refine aE ?_|fail)
  exact aD (l := [iv q.2.1,iv q.2.2]) rfl ⟨rfl,rfl⟩
 ·rw [if_neg h]
  have h2 : Bp p most = false := by simpa using h
  refine aC Tryz.func35 Tryz.ntmps35 ?_
  repeat' (first|(apply aF;(apply KW (p := p) (cs := cs) (n := most);rfl;rfl;rfl;exact Oc p cs most hl hs h2;rfl;rfl))|refine aE ?_|fail)
  exact aD (l := [iv 5,iv 0]) rfl ⟨rfl,rfl⟩
def BU (p : Prg) (cs : List Int) (n : Int) : Int := if Bp p n = true then (dL p.types (aB p) cs n.toNat).2.1 else 5
def Of (p : Prg) (cs : List Int) (n : Int) : Int := if Bp p n = true then ((dL p.types (aB p) cs n.toNat).2.2 : Int) else 0
theorem Oh (p:Prg) (cs:List Int) (n:Int) (hl:p.types.length ≤ 1000000) (hs:bE p.body ≤ 1000000) (hcl:cs.length ≤ 1000000):PC Tryz.prog 35 [cE p,sl cI cs,iv n] (fun r => r = .tup [iv (BU p cs n),iv (Of p cs n)]):=by
 have h := wA p cs n hl hs hcl
 unfold BU Of
 split
 ·rename_i h2;rw [if_pos h2] at h;exact h
 ·rename_i h2;rw [if_neg h2] at h;exact h
theorem Mj (p:Prg) (cs:List Int) (n:Int) (hl:p.types.length ≤ 1000000) (hs:bE p.body ≤ 1000000) (hcl:cs.length ≤ 1000000):PC Tryz.prog 84 [cE p,sl cI cs,iv n] (fun r => r = .tup [iv (BU p cs n),iv (Of p cs n)]):=by
 have h := vS p cs n hl hs hcl
 unfold BU Of
 split
 ·rename_i h2;rw [if_pos h2] at h;exact h
 ·rename_i h2;rw [if_neg h2] at h;exact h
theorem BO {p:Prg}{n:Int}:Bp p n = true ↔ bD p = true ∧ 0 ≤ n ∧ n ≤ 150:=by
 unfold Bp;simp only [Bool.and_eq_true,decide_eq_true_eq]
def vW (n l : Nat) : List Int := (List.range l).map fun i => ((n / 2 ^ i % 2 : Nat) : Int)
theorem sK (n l:Nat):(vW n l).length = l := by unfold vW;rw [List.length_map,List.length_range]
theorem Aq (n l:Nat):vW n (l + 1) = vW n l ++ [((n / 2 ^ l % 2:Nat):Int)]:=by
 unfold vW;rw [List.range_succ,List.map_append]; rfl
def nF (p : Prg) (l n : Nat) : Bool := decide (BU p (vW n l) 80 ≠ 0) && decide (BU p (vW n l) 80 ≠ 1)
def CH (p : Prg) (l k : Nat) : Nat := ((List.range k).filter (nF p l)).length
theorem KC {p:Prg}{l k:Nat}(h:nF p l k = true):CH p l (k + 1) = CH p l k + 1:=by
 unfold CH;rw [List.range_succ,List.filter_append,List.length_append]; simp [h]
theorem Jk {p:Prg}{l k:Nat}(h:nF p l k = false):CH p l (k + 1) = CH p l k:=by
 unfold CH;rw [List.range_succ,List.filter_append,List.length_append]; simp [h]
theorem NI {p:Prg}{l k:Nat}:CH p l k ≤ k:=by
 unfold CH;exact Nat.le_trans (List.length_filter_le _ _) (by rw [List.length_range]; exact Nat.le_refl _)
theorem Bz (n l:Nat) (hl:l ≤ 100) (hn:n ≤ 1000000):PC Tryz.prog 229 [iv (n:Int),iv (l:Int)] (fun r => r = sl cI (vW n l)):=by
 refine aC Tryz.func229 Tryz.ntmps229 ?_
 repeat' (first|refine aE ?_|fail)
 refine aH (σ := Nat × Nat × List Int × Nat) [1] [] (fun k => [(6,iv (k.1 : Int)),(0,iv (k.2.1 : Int)),(5,.own 0 0 k.2.2.2 1)]) (fun k => [(0,some (flat cI k.2.2.1))]) (fun k => k.1 ≤ l ∧ k.2.1 = n / 2 ^ k.1 ∧ k.2.2.1 = vW n k.1 ∧ k.2.2.2 = k.1) (fun k => l - k.1) (0,n,[],0) ⟨Nat.zero_le _,by simp,rfl,rfl⟩ ?_
 rintro ⟨i,n',xs,m⟩ ⟨hi,hn',hxs,hm⟩
 dsimp only at hi hn' hxs hm ⊢
 have hnl : n' ≤ 1000000 := by rw [hn']; exact Nat.le_trans (Nat.div_le_self _ _) hn
 have hxl : xs.length = m := by rw [hxs,sK,hm]
 repeat' (first|(apply aF;(apply aM (t := _);rfl;rfl;rfl;exact (rfl:_=some [_]);rfl;rfl))|refine aE ?_|(refine aK ?_ ?_ <;> intro hc hq <;> try (exfalso;omega))|fail)
 ·(refine bC (i + 1, n' / 2, _, m + 1) (Le.renA [(0, 2)]) ?_ ?_)
  ·refine ⟨by dsimp only; omega, ?_, ?_, by dsimp only; omega⟩
   ·dsimp only;rw [hn',Nat.pow_succ,Nat.div_div_eq_div_mul]
   ·dsimp only;rw [Aq,← hxs,← hn']; rfl
  ·dsimp only;omega
 ·(refine aV (Le.frzD (d := 4) (i := 0) rfl rfl) ?_; refine aD rfl ?_)
  refine ⟨?_,(by (exact a8 _ _))⟩
  have hie : i = l := by omega
  simp only [aN,sl]
  rw [← hxl,hxs,hie]
theorem Gt (l:Nat) (hl:l ≤ 10):PC Tryz.prog 227 [iv (l:Int)] (fun r => r = iv ((2 ^ l:Nat):Int)):=by
 refine aC Tryz.func227 Tryz.ntmps227 ?_
 repeat' (first|refine aE ?_|fail)
 refine aH (σ := Nat) [0] [] (fun k => [(4,iv (k : Int)),(3,iv ((2 ^ k : Nat) : Int))]) (fun k => []) (fun k => k ≤ l) (fun k => l - k) (0) (Nat.zero_le _) ?_
 rintro k hk
 have hp : 2 ^ k ≤ 2 ^ 10 := Nat.pow_le_pow_right (by decide) (by omega)
 repeat' (first|refine aE ?_|(refine aK ?_ ?_ <;> intro hc hq <;> try (exfalso;omega))|fail)
 ·have hw : IntKind.i64.wrap (((2 ^ k : Nat) : Int) * 2) = ((2 ^ (k + 1) : Nat) : Int) := by
   rw [show (((2 ^ k : Nat) : Int) * 2) = ((2 ^ (k + 1) : Nat) : Int) by rw [Nat.pow_succ,Int.natCast_mul]; rfl]
   exact oD (Sm.pow (by omega)).pf
  rw [hw]
  (refine bC (k + 1) (Le.renA []) ?_ ?_)
  ·omega
  ·omega
 ·refine aD rfl ⟨?_, rfl⟩
  rw [show l = k by omega]; rfl
def rP (p : Prg) (l : Int) : Bool := bD p && (decide (0 ≤ l) && decide (l ≤ 6))
theorem pF {p:Prg}{l:Int}:rP p l = true ↔ bD p = true ∧ 0 ≤ l ∧ l ≤ 6 := by unfold rP;simp only [Bool.and_eq_true,decide_eq_true_eq]
theorem w5 (p:Prg) (l:Int) (hl:p.types.length ≤ 1000000) (hs:bE p.body ≤ 1000000):PC Tryz.prog 178 [cE p,iv l] (fun r => r = bv (rP p l)):=by
 have hval := gG p hl (by omega)
 refine aC Tryz.func178 Tryz.ntmps178 ?_
 repeat' (first|(apply aF;(apply aA (k := 61);rfl;exact hval;exact Pur.pf;rfl))|refine aE ?_|(refine bW ?_ ?_ <;> intro hg hq <;> try (exfalso;omega))|fail)
 all_goals (refine aD rfl ⟨?_,rfl⟩; simp only [aN,AV.v.injEq,Value.bool.injEq]; unfold rP;grind)
theorem GQ:PC Tryz.prog 262 [] (fun r => r = iv 80):=by
 refine aC Tryz.func262 Tryz.ntmps262 ?_
 repeat' (first|refine aE ?_|fail)
 exact aD rfl ⟨rfl,rfl⟩
theorem F2 (p:Prg) (cs:List Int) (hl:p.types.length ≤ 1000000) (hs:bE p.body ≤ 1000000) (hcl:cs.length ≤ 1000000):PC Tryz.prog 228 [cE p,sl cI cs] (fun r => r = .tup [bv (decide (BU p cs 80 ≠ 0) && decide (BU p cs 80 ≠ 1)),iv (Of p cs 80)]):=by
 have h := Mj p cs 80 hl hs hcl
 have hm := GQ
 generalize BU p cs 80 = e at *
 generalize Of p cs 80 = a at *
 refine aC Tryz.func228 Tryz.ntmps228 ?_
 repeat' (first|(apply aF;first|(apply aA (k := 84);rfl;exact h;exact Pur.pf;rfl)|(apply aA (k := 262);rfl;exact hm;(rfl);rfl))|refine aE ?_|(refine bW ?_ ?_ <;> intro hg hq <;> try (exfalso;omega))|refine bQ ?_|fail)
 ·refine aD (l := [bv _, iv a]) ?_ ⟨rfl, rfl⟩
  have hd : (decide (e ≠ 0) && decide (e ≠ 1)) = !decide (e = 1) := by simp_all
  rw [hd]; rfl
 ·refine aD (l := [bv _, iv a]) ?_ ⟨rfl, rfl⟩
  have hd : (decide (e ≠ 0) && decide (e ≠ 1)) = false := by simp_all
  rw [hd]; rfl
theorem Ci (l:Int):PC Tryz.prog 257 [iv l] (fun r => r = bv (decide (0 ≤ l) && decide (l ≤ 6))):=by
 have hw := dG l 0 6
 refine aC Tryz.func257 Tryz.ntmps257 ?_
 repeat' (first|(apply aF;(apply aA (k := 54);rfl;exact hw;(rfl);rfl))|refine aE ?_|fail)
 exact aD rfl ⟨rfl,rfl⟩
theorem Ai (n l:Nat) (hl:l ≤ 60) (hn:n ≤ 1000000):PC Tryz.prog 258 [iv (n:Int),iv (l:Int)] (fun r => r = sl cI (vW n l)):=by
 have : Sm n := ⟨by omega⟩
 refine aC Tryz.func258 Tryz.ntmps258 ?_
 repeat' (first|refine aE ?_|fail)
 refine AW.le ?_ (Le.nilOwn (d := 5) 1 rfl (by decide))
 refine aH (σ := Nat × List Int × Nat) [0,7] [] (fun k => [(8,iv (k.1 : Int)),(5,.own 0 0 k.2.2 1)]) (fun k => [(0,some (flat cI k.2.1))]) (fun k => k.1 ≤ l ∧ k.2.1 = vW n k.1 ∧ k.2.2 = k.1) (fun k => l - k.1) (0,[],0) ⟨Nat.zero_le _,rfl,rfl⟩ ?_
 rintro ⟨i,xs,m⟩ ⟨hi,hxs,hm⟩
 dsimp only at hi hxs hm ⊢
 have hxl : xs.length = m := by rw [hxs,sK,hm]
 repeat' (first|(apply aF;(apply aM (t := _);rfl;rfl;rfl;exact (rfl:_=some [_]);rfl;rfl))|refine aE ?_|(refine aK ?_ ?_ <;> intro hc hq <;> try (exfalso;omega))|fail)
 ·(refine bC (i + 1, _, m + 1) (Le.renA [(0, 2)]) ?_ ?_)
  ·refine ⟨by dsimp only; omega, ?_, by dsimp only; omega⟩
   have hz : n >>> (i : Int).toNat &&& 1 = n / 2 ^ i % 2 := by rw [Int.toNat_natCast,Nat.shiftRight_eq_div_pow]; exact Nat.and_one_is_mod _
   dsimp only;rw [Aq,← hxs,← hz]
  ·dsimp only;omega
 ·refine aV (Le.frzD (d := 4) (i := 0) rfl rfl) ?_
  refine aD rfl ⟨?_,(by (exact a8 _ _))⟩
  have hie : i = l := by omega
  simp only [aN,sl]
  rw [← hxl,hxs,hie]
theorem MQ (a b c:Int) (h0:0 ≤ c) (h1:c ≤ 100):MC Tryz.prog 221 [iv a,iv b,.optr 0 0] [(0,some [iv c])] 1 (fun _:Unit => True) (fun _ => .tup []) (fun _ => [(0,some [iv (c + 1)])]):=by
 refine aU Tryz.func221 Tryz.ntmps221 ?_
 repeat' (first|refine aE ?_|fail)
 refine xT (l := []) rfl ?_
 exact aS () trivial rfl ⟨.inr rfl,trivial⟩
theorem GM (p:Prg) (l:Int) (hl:p.types.length ≤ 1000000) (hs:bE p.body ≤ 1000000):MC Tryz.prog 220 [cE p,iv l,.clos (.func 221) [] [.optr 0 0]] [(0,some [iv 0])] 1 (fun _:Unit => True) (fun _ => bv (rP p l)) (fun _ => [(0,some [iv (if rP p l = true then (CH p l.toNat (2 ^ l.toNat):Int) else 0)])]):=by
 have hv0 := oI p hl (by omega)
 have hil := Ci l
 by_cases h : rP p l = true
 ·obtain ⟨hv, h0, h1⟩ := pF.1 h
  rw [hv] at hv0
  rw [h,if_pos rfl]
  obtain ⟨L,rfl⟩ := Int.eq_ofNat_of_zero_le h0
  rw [show (decide (0 ≤ (L : Int)) && decide ((L : Int) ≤ 6)) = true by rw [decide_eq_true h0,decide_eq_true h1]; rfl] at hil
  have hp : 2 ^ L ≤ 2 ^ 6 := Nat.pow_le_pow_right (by decide) (by omega)
  rw [Int.toNat_natCast]
  refine aU Tryz.func220 Tryz.ntmps220 ?_
  repeat' (first|(apply aF;first|(apply aA (k := 39);rfl;exact hv0;exact Pur.pf;rfl)|(apply aA (k := 257);rfl;exact hil;(rfl);rfl)|(apply gC;rfl;rfl;infer_instance;omega;rfl;(case' kk => intro hsm)))|refine aE ?_|fail)
  rw [Int.toNat_natCast]
  generalize hT : 2 ^ L = T at *
  refine aH (σ := Nat × Nat) [1,2,3,19] [] (fun s => [(20,iv (s.1 : Int))]) (fun s => [(0,some [iv (s.2 : Int)]),(1,some [sl cI p.types,sl bF p.body])]) (fun s => s.1 ≤ T ∧ s.2 = CH p L s.1) (fun s => T - s.1) (0,0) ⟨Nat.zero_le _,rfl⟩ ?_
  rintro ⟨k,c⟩ ⟨hk,hc⟩
  dsimp only at hk hc ⊢
  have hcb := NI (p := p) (l := L) (k := k)
  have hch1 := KC (p := p) (l := L) (k := k)
  have hcs1 := Jk (p := p) (l := L) (k := k)
  rw [← hc] at hcb hch1 hcs1
  have hch := Ai k L (by omega) (by omega)
  have hru := Oh p (vW k L) 80 hl hs (by rw [sK]; omega)
  have hbd : nF p L k = (decide (BU p (vW k L) 80 ≠ 0) && decide (BU p (vW k L) 80 ≠ 1)) := rfl
  generalize BU p (vW k L) 80 = e at hru hbd
  generalize Of p (vW k L) 80 = a at hru
  repeat' (first|(apply aF;first|(apply aA (k := 258);rfl;exact hch;(rfl);rfl)|(apply aA (k := 35);rfl;exact hru;exact Pur.pf;rfl))|refine aE ?_|(refine aK ?_ ?_ <;> intro hc hq <;> try (exfalso;omega))|(refine bW ?_ ?_ <;> intro hg hq <;> try (exfalso;omega))|refine bQ ?_|fail)
  ·have hbt : nF p L k = true := by rw [hbd]; simp_all
   refine EW (k := 221) (avs := [iv (k : Int),iv a]) (avs0 := [iv (k : Int),iv a,.optr 0 0]) (rr' := .tup []) [0] 1 [(0,some [iv ((c : Int) + 1)])] (MQ (k : Int) a (c : Int) (by omega) (by omega)) rfl rfl rfl rfl ⟨⟨_,_,rfl,rfl,RnL.purI inferInstance⟩,trivial⟩ rfl (RnL.cons (RnV.purI inferInstance) (RnL.cons (RnV.purI inferInstance) (RnL.cons (RnV.optr rfl) .nil))) rfl (RnV.purI inferInstance) rfl ⟨⟨0,_,rfl,rfl,RnL.purI inferInstance⟩,trivial⟩ rfl ?_
   repeat' (first|refine aE ?_|fail)
   (apply bC (k + 1,c + 1);focus (refine Le.of (mN ?_) (jS ?_) (Nat.le_refl 2) rfl <;> repeat' (first|exact trivial|refine And.intro rfl ?_|refine And.intro (.inr rfl) ?_)))
   ·exact ⟨by dsimp only;omega,(hch1 hbt).symm⟩
   ·dsimp only;omega
  ·have hbf : nF p L k = false := by rw [hbd]; simp_all
   (apply bC (k + 1,c);focus (refine Le.of (mN ?_) (jS ?_) (Nat.le_refl 2) rfl <;> repeat' (first|exact trivial|refine And.intro rfl ?_|refine And.intro (.inr rfl) ?_)))
   ·exact ⟨by dsimp only;omega,(hcs1 hbf).symm⟩
   ·dsimp only;omega
  ·have hbf : nF p L k = false := by rw [hbd]; simp_all
   (apply bC (k + 1,c);focus (refine Le.of (mN ?_) (jS ?_) (Nat.le_refl 2) rfl <;> repeat' (first|exact trivial|refine And.intro rfl ?_|refine And.intro (.inr rfl) ?_)))
   ·exact ⟨by dsimp only;omega,(hcs1 hbf).symm⟩
   ·dsimp only;omega
  all_goals
   obtain rfl : k = T := by omega
   obtain rfl : c = CH p L k := by assumption
   refine aD rfl ?_
   exact aS () trivial rfl ⟨.inr rfl,trivial⟩
 ·have h2 : rP p l = false := by simpa using h
  rw [h2,if_neg (by decide)]
  by_cases hv : bD p = true
  ·have hil2 : (decide (0 ≤ l) && decide (l ≤ 6)) = false := by unfold rP at h2; rw [hv] at h2; simpa using h2
   rw [hv] at hv0
   rw [hil2] at hil
   refine aU Tryz.func220 Tryz.ntmps220 ?_
   repeat' (first|(apply aF;first|(apply aA (k := 39);rfl;exact hv0;exact Pur.pf;rfl)|(apply aA (k := 257);rfl;exact hil;(rfl);rfl))|refine aE ?_|fail)
   refine aD rfl ?_
   exact aS () trivial rfl ⟨.inr rfl,trivial⟩
  ·have hv2 : bD p = false := by simpa using hv
   rw [hv2] at hv0
   refine aU Tryz.func220 Tryz.ntmps220 ?_
   repeat' (first|(apply aF;(apply aA (k := 39);rfl;exact hv0;exact Pur.pf;rfl))|refine aE ?_|fail)
   refine aD rfl ?_
   exact aS () trivial rfl ⟨.inr rfl,trivial⟩
theorem v8 (p:Prg) (l:Int) (hl:p.types.length ≤ 1000000) (hs:bE p.body ≤ 1000000):PC Tryz.prog 168 [cE p,iv l] (fun r => r = .tup (if rP p l = true then [iv (CH p l.toNat (2 ^ l.toNat)),iv ((2 ^ l.toNat:Nat):Int)] else [iv 0,iv 0])):=by
 have hw := GM p l hl hs
 have harg : RnL (([1] : List Nat)[·]?) [cE p,iv l,.clos (.func 221) [] [.optr 0 0]] [cE p,iv l,.clos (.func 221) [] [.optr 1 0]] := RnL.cons (RnV.purI inferInstance) (RnL.cons (RnV.purI inferInstance) (RnL.cons (RnV.clos .nil (RnL.cons (RnV.optr rfl) .nil)) .nil))
 by_cases h : rP p l = true
 ·obtain ⟨hv, h0, h1⟩ := pF.1 h
  rw [h,if_pos rfl] at hw
  rw [h,if_pos rfl]
  obtain ⟨L,rfl⟩ := Int.eq_ofNat_of_zero_le h0
  have hp : 2 ^ L ≤ 2 ^ 6 := Nat.pow_le_pow_right (by decide) (by omega)
  rw [Int.toNat_natCast] at *
  refine aC Tryz.func168 Tryz.ntmps168 ?_
  repeat' (first|refine aE ?_|fail)
  refine qN (k := 220) (avs := [cE p,iv (L : Int),.clos (.func 221) [] [.optr 1 0]]) (rr' := bv true) [1] 1 [(1,some [iv (CH p L (2 ^ L) : Int)])] hw rfl rfl ⟨⟨_,_,rfl,rfl,RnL.purI inferInstance⟩,trivial⟩ rfl harg rfl (RnV.purI inferInstance) rfl ⟨⟨0,_,rfl,rfl,RnL.purI inferInstance⟩,trivial⟩ rfl ?_
  repeat' (first|(apply aF;(apply gC;rfl;rfl;infer_instance;omega;rfl;(case' kk => intro hsm)))|refine aE ?_|refine bQ ?_|fail)
  exact aD (l := [iv _,iv _]) rfl ⟨rfl,rfl⟩
 ·have h2 : rP p l = false := by simpa using h
  rw [h2,if_neg (by decide)] at hw
  rw [if_neg h]
  refine aC Tryz.func168 Tryz.ntmps168 ?_
  repeat' (first|refine aE ?_|fail)
  refine qN (k := 220) (avs := [cE p,iv l,.clos (.func 221) [] [.optr 1 0]]) (rr' := bv false) [1] 1 [(1,some [iv 0])] hw rfl rfl ⟨⟨_,_,rfl,rfl,RnL.purI inferInstance⟩,trivial⟩ rfl harg rfl (RnV.purI inferInstance) rfl ⟨⟨0,_,rfl,rfl,RnL.purI inferInstance⟩,trivial⟩ rfl ?_
  repeat' (first|refine aE ?_|fail)
  exact aD (l := [iv 0,iv 0]) rfl ⟨rfl,rfl⟩
def OT (p : Prg) (l : Int) : Int := if rP p l = true then (CH p l.toNat (2 ^ l.toNat) : Int) else 0
def LG (p : Prg) (l : Int) : Int := if rP p l = true then ((2 ^ l.toNat : Nat) : Int) else 0
theorem Pb (p:Prg) (l:Int) (hl:p.types.length ≤ 1000000) (hs:bE p.body ≤ 1000000):PC Tryz.prog 168 [cE p,iv l] (fun r => r = .tup [iv (OT p l),iv (LG p l)]):=by
 have h := v8 p l hl hs
 unfold OT LG
 split
 ·rename_i h2;rw [if_pos h2] at h;exact h
 ·rename_i h2;rw [if_neg h2] at h;exact h
theorem NK (p:Prg) (l:Int):0 ≤ LG p l ∧ LG p l ≤ 64:=by
 unfold LG
 split
 ·rename_i h
  obtain ⟨_,h0,h1⟩ := pF.1 h
  have hp : 2 ^ l.toNat ≤ 2 ^ 6 := Nat.pow_le_pow_right (by decide) (by omega)
  have h64 : (2 ^ 6 : Nat) = 64 := rfl
  rw [h64] at hp
  exact ⟨Int.natCast_nonneg _,by exact_mod_cast hp⟩
 ·omega
theorem Ey {p:Prg}{cs:List Int}{n:Int}{L:List Iss}(hL:bD p = true → ∃ f:Flows p.types (aB p),L = f.iss) (ha:(bD p && L.isEmpty) = true):BU p cs n = 0 ∨ BU p cs n = 1 ∨ (BU p cs n = 5 ∧ (n < 0 ∨ 150 < n)):=by
 rw [Bool.and_eq_true] at ha
 obtain ⟨f,e⟩ := hL ha.1
 have h0 : f.iss = [] := by rw [← e]; exact List.isEmpty_iff.1 ha.2
 unfold BU
 by_cases h : Bp p n = true
 ·obtain ⟨hv, h1, h2⟩ := BO.1 h
  rw [if_pos h]
  rcases Fa (WG.of_valid hv) (WA.of_valid hv) f cs n.toNat (by omega) h0 with q|q
  ·exact .inl q
  ·exact .inr (.inl q)
 ·rw [if_neg h]
  refine .inr (.inr ⟨rfl,?_⟩)
  apply Classical.byContradiction;intro q
  exact h (BO.2 ⟨ha.1,by omega,by omega⟩)
def Ab (p : Prg) (l : Int) : Option Nat := if rP p l = true then (List.range (2 ^ l.toNat)).find? (nF p l.toNat) else none
def Pq (p : Prg) (l : Int) : List Int := match Ab p l with | some n => vW n l.toNat | none => []
theorem KU {P:Nat → Bool}{k T:Nat}(hk:k < T) (h:P k = true) (hb:∀ j,j < k → P j = false):(List.range T).find? P = some k:=by
 rw [List.find?_range_eq_some]
 exact ⟨h,List.mem_range.2 hk,fun j hj => by rw [hb j hj]; rfl⟩
theorem Ep {P:Nat → Bool}{T:Nat}(hb:∀ j,j < T → P j = false):(List.range T).find? P = none:=by
 rw [List.find?_eq_none]; intro x hx;rw [hb x (List.mem_range.1 hx)]; decide
theorem v5 (p:Prg) (l:Int) (hl:p.types.length ≤ 1000000) (hs:bE p.body ≤ 1000000):PC Tryz.prog 177 [cE p,iv l] (fun r => r = .tup [sl cI (Pq p l),bv (Ab p l).isSome]):=by
 have hr := w5 p l hl hs
 by_cases h : rP p l = true
 ·obtain ⟨hv, h0, h1⟩ := pF.1 h
  rw [h] at hr
  obtain ⟨L,rfl⟩ := Int.eq_ofNat_of_zero_le h0
  have e : Ab p (L : Int) = (List.range (2 ^ L)).find? (nF p L) := by unfold Ab;rw [if_pos h,Int.toNat_natCast]
  have e2 : Pq p (L : Int) = match (List.range (2 ^ L)).find? (nF p L) with|some n => vW n L|none => [] := by unfold Pq;rw [e,Int.toNat_natCast]
  rw [e,e2]
  have hru := Gt L (by omega)
  have hp : 2 ^ L ≤ 2 ^ 6 := Nat.pow_le_pow_right (by decide) (by omega)
  generalize hT : 2 ^ L = T at *
  refine aC Tryz.func177 Tryz.ntmps177 ?_
  repeat' (first|(apply aF;(apply aA (k := 178);rfl;exact hr;exact Pur.pf;rfl))|refine aE ?_|fail)
  refine aH (σ := Nat) [1,2] [0] (fun k => [(6,iv (k : Int))]) (fun k => []) (fun k => k ≤ T ∧ ∀ j,j < k → nF p L j = false) (fun k => T - k) (0) ⟨Nat.zero_le _,fun j hj => by omega⟩ ?_
  rintro k ⟨hk,hb⟩
  have hch := Bz k L (by omega) (by omega)
  have hwr := F2 p (vW k L) hl hs (by rw [sK]; omega)
  change PC _ _ _ (fun r => r = .tup [bv (nF p L k),_]) at hwr
  repeat' (first|(apply aF;first|(apply aA (k := 229);rfl;exact hch;(rfl);rfl)|(apply aA (k := 228);rfl;exact hwr;exact Pur.pf;rfl)|(apply aA (k := 227);rfl;exact hru;(rfl);rfl)|(apply aM (t := _);rfl;rfl;rfl;(rfl);rfl;rfl))|refine aE ?_|(refine aK ?_ ?_ <;> intro hc hq <;> try (exfalso;omega))|refine bQ ?_|fail)
  ·rw [KU (by omega) (by assumption) hb]
   exact aD (l := [sl cI (vW k L),bv true]) rfl ⟨rfl,Pur.pf⟩
  ·(refine bC (k + 1) (Le.renA [(0, 0)]) ?_ ?_)
   ·refine ⟨by omega, fun j hj => ?_⟩
    by_cases q : j = k
    ·subst q;assumption
    ·exact hb j (by omega)
   ·omega
  ·obtain rfl : k = T := by omega
   rw [Ep hb]
   exact aD (l := [.imm 0 [],bv false]) rfl ⟨rfl,rfl⟩
 ·have h2 : rP p l = false := by simpa using h
  rw [h2] at hr
  have e : Ab p l = none := by unfold Ab;rw [if_neg h]
  have e2 : Pq p l = [] := by unfold Pq;rw [e]
  rw [e,e2]
  refine aC Tryz.func177 Tryz.ntmps177 ?_
  repeat' (first|(apply aF;first|(apply aA (k := 178);rfl;exact hr;exact Pur.pf;rfl)|(apply aM (t := _);rfl;rfl;rfl;(rfl);rfl;rfl))|refine aE ?_|fail)
  exact aD (l := [.imm 0 [],bv false]) rfl ⟨rfl,rfl⟩
theorem JO (p:Prg) (l:Int) (hl:p.types.length ≤ 1000000) (hs:bE p.body ≤ 1000000):PC Tryz.prog 99 [cE p,iv l] (fun r => r = bv (rP p l && (Ab p l).isNone)):=by
 have h1 := v5 p l hl hs
 have h2 := w5 p l hl hs
 have e : (Ab p l).isNone = !(Ab p l).isSome := by cases Ab p l <;> rfl
 rw [e]
 generalize (Ab p l).isSome = b at *
 refine aC Tryz.func99 Tryz.ntmps99 ?_
 repeat' (first|(apply aF;first|(apply aA (k := 177);rfl;exact h1;exact Pur.pf;rfl)|(apply aA (k := 178);rfl;exact h2;exact Pur.pf;rfl))|refine aE ?_|(refine bW ?_ ?_ <;> intro hg hq <;> try (exfalso;omega))|fail)
 all_goals (refine aD rfl ⟨?_,rfl⟩; simp only [aN]; simp_all)
theorem Ka (p:Prg) (l:Int):(decide (0 < LG p l) && decide (OT p l = 0)) = (rP p l && (Ab p l).isNone):=by
 unfold LG OT Ab
 by_cases h : rP p l = true
 ·rw [if_pos h, if_pos h, if_pos h, h]
  have hp : 0 < 2 ^ l.toNat := Nat.pow_pos (by decide)
  rw [decide_eq_true (by omega : (0 : Int) < ((2 ^ l.toNat : Nat) : Int)),Bool.true_and,Bool.true_and,Bool.eq_iff_iff,decide_eq_true_eq,Option.isNone_iff_eq_none,List.find?_eq_none]
  unfold CH
  constructor
  ·intro q x hx hb
   have : (List.range (2 ^ l.toNat)).filter (nF p l.toNat) = [] := List.length_eq_zero_iff.1 (by omega)
   have hm : x ∈ (List.range (2 ^ l.toNat)).filter (nF p l.toNat) := List.mem_filter.2 ⟨hx,hb⟩
   rw [this] at hm;cases hm
  ·intro q
   have : (List.range (2 ^ l.toNat)).filter (nF p l.toNat) = [] := List.filter_eq_nil_iff.2 q
   rw [this]; rfl
 ·rw [if_neg h, if_neg h, if_neg h]
  have h2 : rP p l = false := by simpa using h
  rw [h2]; rfl
theorem KY (p:Prg) (l:Int) (hl:p.types.length ≤ 1000000) (hs:bE p.body ≤ 1000000):PC Tryz.prog 95 [cE p,iv l] (fun r => r = bv (rP p l && (Ab p l).isNone)):=by
 have h1 := Pb p l hl hs
 rw [← Ka]
 have hb := NK p l
 generalize LG p l = a at *
 generalize OT p l = c at *
 refine aC Tryz.func95 Tryz.ntmps95 ?_
 repeat' (first|(apply aF;(apply aA (k := 168);rfl;exact h1;exact Pur.pf;rfl))|refine aE ?_|(refine bW ?_ ?_ <;> intro hg hq <;> try (exfalso;omega))|fail)
 all_goals (refine aD rfl ⟨?_,rfl⟩; simp only [aN]; first|(simp_all;done)|(simp_all;omega))
theorem Hi {p:Prg}{l:Int}{L:List Iss}(hL:bD p = true → ∃ f:Flows p.types (aB p),L = f.iss) (ha:(bD p && L.isEmpty) = true) (h0:0 ≤ l) (h6:l ≤ 6):(rP p l && (Ab p l).isNone) = true:=by
 have hv := (Bool.and_eq_true _ _ ▸ ha).1
 have h8 : rP p l = true := pF.2 ⟨hv,h0,h6⟩
 rw [h8,Bool.true_and,Option.isNone_iff_eq_none]
 unfold Ab
 rw [if_pos h8]
 refine Ep fun j _ => ?_
 unfold nF
 rcases Ey (cs := vW j l.toNat) (n := 80) hL ha with q|q | ⟨_,q⟩
 ·rw [q]; rfl
 ·rw [q]; rfl
 ·omega
end Go.Proofs.YtahdccneecdmmaaGreat
namespace Go.Proofs.YtahdccneecdmmaaGreat
open Go.AL Go.ChangeShapes Go.WideShapes Go.ChangeAt Go.RowKit
theorem w7 {w:World}{bad:Nat → Prop}{ι:Pl}{b:Nat}:∀ (bs:List UInt8) (o:Nat),¬ bad b → (∀ j,j < bs.length → w.cell? ⟨b,o + j,none⟩ = some (.int .u8 ((bs[j]!).toNat:Int))) → RdC w bad ι (flat cU bs) b o
 | [],_,_,_ => by simp only [flat,List.flatMap_nil,RdC]
 | x :: bs, o, hb, h => by
  have h0 := h 0 (by simp)
  have e : flat cU (x :: bs) = .v (.int .u8 (x.toNat : Int)) :: flat cU bs := rfl
  rw [e]
  simp only [RdC]
  refine ⟨⟨.int .u8 (x.toNat : Int),by simpa using h0,rfl,by simp only [Rd]⟩,w7 bs (o + 1) hb fun j hj => ?_⟩
  have := h (j + 1) (by simpa using hj)
  rw [show o + 1 + j = o + (j + 1) from by omega]
  simpa using this
theorem BB {P:Program}{k:FuncId}{bs:List UInt8}(h:PC P k [sl cU bs] (fun r => r = bv true)){W:World}{v:Value}(hv:Rd W (fun _ => False) (fun _ => none) (sl cU bs) v) :
  Calls P k #[v] W fun e W' => e = .returned (.bool true) ∧ Below W.heap.size W W' := by
 let C : Ctx := { N := 0,w0 := W,W0 := fun _ => False,X := fun _ => False,ι0 := fun _ => none,xlt := fun _ h => h.elim }
 have hbad : ∀ b, ¬ aJ C.X (fun _ => none) (aQ []) b := by
  rintro b (h | ⟨id,cs,β,h1,h2⟩)
  ·exact h
  ·cases h2
 have g : HG C (fun _ => none) (fun j => 0 ≤ j) (aQ []) W :=
  ⟨fun id cs h => by simp [aQ] at h,fun id id' cs cs' b β β' h => by simp [aQ] at h,Fr.refl _ _,fun _ _ h => h,fun _ _ => rfl⟩
 have hcar : Carry W (fun _ => False) (fun _ => none) W (aJ C.X (fun _ => none) (aQ [])) (fun _ => none) := ⟨fun b o x _ h2 => ⟨hbad b,h2⟩,fun _ _ h => h,fun _ => Nat.le_refl _⟩
 have ha : RdV W (aJ C.X (fun _ => none) (aQ [])) (fun _ => none) [sl cU bs] [v] := by
  simp only [RdV]
  exact ⟨v,[],rfl,Rd.carry hcar _ _ hv,rfl⟩
 refine (h C _ W [v] rfl rfl g ha).mono ?_
 rintro e W' ⟨v',r,H',ι',rfl,⟨rfl,_⟩,h4,h5⟩
 simp only [Rd] at h4
 subst h4
 have f := h5.fr
 exact ⟨rfl,f.os,f.tape,f.output,f.size,fun b hb => f.block b hb (fun h => h)⟩
theorem PW:laidOutB Tryz.prog = true := by kernel_rfl
theorem Mz:Tryz.prog.cellsOf 5 = 1 := by kernel_rfl
theorem HT {H:Type}{enc:TypeId × Value → H}{W:World}{base:Nat}{v0:Value}{d0:DataW H}{p:List MemPlace}(hval:Value.okWide Tryz.prog W .any base 22 v0) (h0:DataW.Trod enc Tryz.prog W 0 (fun _ => true) true 22 v0 d0 p) :
  ∃ bs : List UInt8,Rd W (fun _ => False) (fun _ => none) (sl cU bs) v0 := by
 obtain ⟨a0,len,cap,rfl⟩ := okWide_slice Tryz.underlying22 hval
 obtain ⟨fuel,hf⟩ := h0
 rcases open_ints Tryz.underlying22 Tryz.underlying5 Mz hf with ⟨hcs,hx⟩ | ⟨a,len',cap',zs,hcs,_,hl,hm,hz,hx,hcell,hwz⟩
 ·simp [Value.cells] at hcs
  obtain ⟨rfl,rfl,rfl⟩ := hcs
  refine ⟨[],?_⟩
  simp only [Rd]
  exact ⟨none,0,rfl,.inl rfl⟩
 ·simp [Value.cells] at hcs
  obtain ⟨rfl,rfl,rfl⟩ := hcs
  simp only [if_true] at hz
  refine ⟨(zs.take len).map fun n => UInt8.ofNat n.toNat,?_⟩
  have hlen : ((zs.take len).map fun n => UInt8.ofNat n.toNat).length = len := by simp;omega
  simp only [Rd]
  refine ⟨some a,cap,by rw [hlen],?_⟩
  by_cases h00 : len = 0
  ·exact .inl (by rw [hlen]; exact h00)
  ·obtain ⟨b, off, spot⟩ := a
   have hspot : spot = none := by simpa [Addr.add] using World.cell?_spot (hcell 0 (by omega))
   subst hspot
   refine .inr ⟨b,off,by rw [hlen]; exact hl,rfl,.inr ⟨fun h => h,w7 _ _ (fun h => h) fun j hj => ?_⟩⟩
   rw [hlen] at hj
   have hcj := hcell j (by omega)
   rw [Addr.add_lit] at hcj
   rw [hcj]
   have e : zs.getD j 0 = zs[j]'(by omega) := by simp [List.getD,List.getElem?_eq_getElem (show j < zs.length by omega)]
   have hw := hwz (zs[j]'(by omega)) (List.getElem_mem _)
   have hr : 0 ≤ zs[j]'(by omega) ∧ zs[j]'(by omega) ≤ 255 := by simpa [Lit.wf,IntKind.min,IntKind.max,IntKind.signed,IntKind.bits] using hw
   rw [e,a7 _ _ (by rw [hlen]; exact hj)]
   simp only [List.getElem_map,List.getElem_take]
   congr 2
   simp only [UInt8.toNat_ofNat']
   omega
end Go.Proofs.YtahdccneecdmmaaGreat
namespace Go.Proofs.YtahdccneecdmmaaGreat
open Go.AL Go.RowKit
theorem Jd (ck:Nat) [hck:CaT Tryz.prog ck] (ts:List Int) (bd:List AL.Stmt) (pts:List Pnt) (Aa Am Al Af Ap:List Nat) (w:WG ts pts) (ga:nJ ts pts Aa) (gm:l9 ts pts Am) (hll:Al.length = pts.length) (hAlb:∀ i,i < pts.length → Al[i]! < 2 ^ ts.length) (gf:pM ts pts Af) (gp:nK ts pts Ap)
  (hcl : ∀ i : Int,0 ≤ i ∧ i < pts.length → PC Tryz.prog ck [iv i,.iptr [.imm pts.length (flat cW Af)]] (fun r => r = .agg (flat cW (cD Af i.toNat)))) :
  PC Tryz.prog 105 [aG ts bd pts,.imm pts.length (flat cN Al),.clos (.func ck) [] [.iptr [.imm pts.length (flat cW Af)]]] (fun r => r = sl dO (iC ts pts Aa Am Al Af Ap pts.length)) := by
 have hpl := w.pl
 have htl := w.tl
 have hla := ga.1
 have hlm := gm.1
 have hlf := gf.1
 have hlp := gp.1
 refine aC Tryz.func105 Tryz.ntmps105 ?_
 repeat' (first|(apply aF;first|(apply fC (d := 10) (e := 3);rfl;rfl)|(first|(apply aA (k := 102);rfl;(apply sG <;> (assumption));exact Pur.pf;rfl)|(apply aA (k := 121);rfl;(apply tE <;> (assumption));exact Pur.pf;rfl)|(apply aA (k := 184);rfl;(apply tF <;> (assumption));exact Pur.pf;rfl)))|refine aE ?_|fail)
 refine aH (σ := Nat × List Iss × Nat) [0,1,2,7,8,9,27,28] [] (fun k => [(29,iv (k.1 : Int)),(10,.own 0 0 k.2.2 3)]) (fun k => [(0,some (flat dO k.2.1))]) (fun k => k.1 ≤ pts.length ∧ k.2.1 = iC ts pts Aa Am Al Af Ap k.1 ∧ k.2.2 = k.2.1.length ∧ k.2.2 ≤ k.1 * 124) (fun k => pts.length - k.1) (0,[],0) ⟨by omega,rfl,rfl,Nat.le_refl _⟩ ?_
 rintro ⟨i,u,m⟩ ⟨hk,hu,hm,hmk⟩
 dsimp only at hk hu hm hmk ⊢
 by_cases hin : i < pts.length
 ·have hst := w.set i hin
  have hsU : Sm (wS ts pts[i]! [1,2,3]) := bV (by omega)
  have bl : ∀ {A : Nat} {n : Nat}, n ≤ 62 → (∀ v, A.testBit v = true → v < n) → A < 2 ^ n := fun _ hv => Nat.lt_pow_two_of_testBit _ fun v h => by
   cases hq : Nat.testBit _ v with
   | false => rfl
   | true => have := hv v hq;omega
  have hAa : Sm Aa[i]! := ⟨bl (n := 62) (by omega) fun v hv => by have := ((ga.2 i hin v).1 hv).1;omega⟩
  have hAm : Sm Am[i]! := ⟨bl (n := 62) (by omega) fun v hv => by have := rN w ((gm.2 i hin v).1 hv);dsimp only at this;omega⟩
  have hAl := hAlb i hin
  have hAl2 : Sm Al[i]! := ⟨Nat.lt_of_lt_of_le hAl (Nat.pow_le_pow_right (by decide) (by omega))⟩
  have hAp : Ap[i]! < 2 ^ pts.length := bl (by omega) fun v hv => (lD ((gp.2 i hin v).1 hv)).1
  have hAp2 : Sm Ap[i]! := ⟨Nat.lt_of_lt_of_le hAp (Nat.pow_le_pow_right (by decide) (by omega))⟩
  have hrl := dZ hlf hin
  have hrs : ∀ z : Nat, Sm (cD Af i)[z]! := by
   intro z
   by_cases hz : z < 6
   ·rw [dK hlf hin hz]
    exact ⟨bl (n := 62) (by omega) fun v hv => by have := (s8 w ((gf.2 i z hin hz v).1 hv)).2.2;dsimp only at this;omega⟩
   ·rw [getElem!_neg _ z (by rw [hrl]; exact hz)]; exact ⟨by decide⟩
  have hkp : kN ts pts[(i : Int).toNat]! Al[i]! (cD Af (i : Int).toNat) < 2 ^ pts.length := by
   refine bl (by omega) fun v hv => ?_
   unfold kN at hv
   rw [c9] at hv
   rcases hv with hv | ⟨z,hz,hv⟩
   ·simp at hv
   ·obtain ⟨q, h1, h2, rfl⟩ := bR.1 hz
    rw [bY,Bool.and_eq_true] at h2
    have h3 := cH hAl h2.1
    have h4 : q < 6 := by omega
    have h5 : (cD Af i)[q]!.testBit v = true := hv
    rw [dK hlf hin h4] at h5
    exact (s8 w ((gf.2 i q hin h4 v).1 h5)).2.2
  have hkp2 : Sm (kN ts pts[(i : Int).toNat]! Al[i]! (cD Af (i : Int).toNat)) := ⟨Nat.lt_of_lt_of_le hkp (Nat.pow_le_pow_right (by decide) (by omega))⟩
  have hlo : kN ts pts[(i : Int).toNat]! Al[i]! (cD Af (i : Int).toNat) &&& Ap[i]! < 2 ^ pts.length := Nat.and_lt_two_pow _ hAp
  have hcf := qR w (Am := Am) (Al := Al) (Af := Af) (i := i) hAp
  have hcf2 : Sm (rW ts pts Am Al Af Ap i) := ⟨Nat.lt_of_lt_of_le hcf (Nat.pow_le_pow_right (by decide) (by omega))⟩
  have hcf3 : Sm (DG pts (kN ts pts[(i : Int).toNat]! Al[i]! (cD Af (i : Int).toNat) &&& Ap[i]!) (fE ts pts[(i : Int).toNat]! (Am[i]!.testBit (aL pts[(i : Int).toNat]!).toNat)) 0) := hcf2
  have hb1 := cC (iE (wS ts pts[i]! [1,2,3]) Aa[i]!)
  have hb2 := cC (rW ts pts Am Al Af Ap i)
  repeat' (first|(apply aF;(first|(apply aA (k := 120);rfl;(apply fQ <;> (infer_instance));(rfl);rfl)|(apply aA (k := 158);rfl;(apply gJ <;> (assumption));exact Pur.pf;rfl)))|refine aE ?_|(refine aK ?_ ?_ <;> intro hc hq <;> try (exfalso;omega))|refine bQ ?_|fail)
  have hb1b : ∀ j,j < (aZ (iE (wS ts pts[i]! [1,2,3]) Aa[i]!)).length → 0 ≤ (aZ (iE (wS ts pts[i]! [1,2,3]) Aa[i]!))[j]! := fun j h => (gH (inferInstance : Sm (iE (wS ts pts[i]! [1,2,3]) Aa[i]!)).pf h).1
  refine aH (σ := Nat × List Iss × Nat) [0,1,2,7,8,9,11,27,28,29,42,43] [] (fun j => [(44,iv (j.1 : Int)),(10,.own 0 0 j.2.2 3)]) (fun j => [(0,some (flat dO j.2.1))]) (fun j => j.1 ≤ (aZ (iE (wS ts pts[i]! [1,2,3]) Aa[i]!)).length ∧ j.2.1 = u ++ nM i ((aZ (iE (wS ts pts[i]! [1,2,3]) Aa[i]!)).take j.1) ∧ j.2.2 = j.2.1.length ∧ j.2.2 ≤ i * 124 + j.1) (fun j => (aZ (iE (wS ts pts[i]! [1,2,3]) Aa[i]!)).length - j.1) (0,u,m) ⟨by omega,by simp [nM],hm,by omega⟩ ?_
  rintro ⟨j,u2,m2⟩ ⟨hj,hu2,hm2,hmk2⟩
  dsimp only at hj hu2 hm2 hmk2 ⊢
  by_cases hjn : j < (aZ (iE (wS ts pts[i]! [1,2,3]) Aa[i]!)).length
  ·repeat' (first | (apply aF; (apply aM (t := _);rfl;rfl;rfl;(exact (rfl:_=some [_, _, _]));rfl;rfl)) | refine aE ?_ | (refine aK ?_ ?_ <;> intro hc hq <;> try (exfalso; omega))|fail)
   (refine bC (j + 1,_,_) (Le.renA [(0,3)]) ?_ ?_)
   ·dsimp only
    refine ⟨by omega,?_,by simp;omega,by omega⟩
    rw [hu2]; unfold nM;rw [cT _ _ _ hjn,List.append_assoc]
   ·dsimp only;omega
  ·have hu3 : u2 = u ++ nM i (aZ (iE (wS ts pts[i]! [1, 2, 3]) Aa[i]!)) := by rw [hu2, List.take_of_length_le (by omega)]
   have hcl0 := hcl (i : Int) (by omega)
   repeat' (first|(apply aF;first|(first|(apply aA (k := 76);rfl;(apply kT <;> (assumption));(rfl);rfl)|(apply aA (k := 185);rfl;(apply qZ <;> (first|assumption|omega));exact Pur.pf;rfl)|(apply aA (k := 186);rfl;(apply CL <;> (first|assumption|omega));exact Pur.pf;rfl))|(apply gI;rfl;rfl;infer_instance;rfl;(apply hcl0);exact Pur.pf;rfl))|refine aE ?_|(refine aK ?_ ?_ <;> intro hc hq <;> try (exfalso;omega))|refine bQ ?_|fail)
   generalize hL : aZ (DG pts (kN ts pts[(i : Int).toNat]! Al[i]! (cD Af (i : Int).toNat) &&& Ap[i]!) (fE ts pts[(i : Int).toNat]! (Am[i]!.testBit (aL pts[(i : Int).toNat]!).toNat)) 0) = L2
   have hL2 : aZ (rW ts pts Am Al Af Ap i) = L2 := hL
   have hbd : ∀ j,j < L2.length → 0 ≤ L2[j]! ∧ L2[j]! < pts.length := fun j h => by rw [← hL2] at h ⊢; exact gH hcf h
   rw [hL2] at hb2
   refine aH (σ := Nat × List Iss × Nat) [0,1,2,7,8,9,11,27,28,29,77,78] [] (fun l => [(79,iv (l.1 : Int)),(10,.own 0 0 l.2.2 3)]) (fun l => [(0,some (flat dO l.2.1))]) (fun l => l.1 ≤ L2.length ∧ l.2.1 = u2 ++ nZ pts i (L2.take l.1) ∧ l.2.2 = l.2.1.length ∧ l.2.2 ≤ i * 124 + 62 + l.1) (fun l => L2.length - l.1) (0,u2,m2) ⟨by omega,by simp [nZ],hm2,Nat.le_trans hmk2 (by omega)⟩ ?_
   rintro ⟨l,u4,m4⟩ ⟨hl,hu4,hm4,hmk4⟩
   dsimp only at hl hu4 hm4 hmk4 ⊢
   by_cases hln : l < L2.length
   ·have hbl := hbd l hln
    repeat' (first|(apply aF;(apply aM (t := _);rfl;rfl;rfl;(exact (rfl:_=some [_,_,_]));rfl;rfl))|refine aE ?_|(refine aK ?_ ?_ <;> intro hc hq <;> try (exfalso;omega))|fail)
    ·(refine bC (l + 1, _, _) (Le.renA [(0, 3)]) ?_ ?_)
     ·dsimp only
      refine ⟨by omega,?_,by simp;omega,by omega⟩
      rw [hu4]; unfold nZ;rw [cT _ _ _ hln,List.append_assoc,if_pos hq]
     ·dsimp only;omega
    ·(refine bC (l + 1, _, _) (Le.renA [(0, 3)]) ?_ ?_)
     ·dsimp only
      refine ⟨by omega,?_,by simp;omega,by omega⟩
      rw [hu4]; unfold nZ;rw [cT _ _ _ hln,List.append_assoc,if_neg hq]
     ·dsimp only;omega
   ·repeat' (first | refine aE ?_ | (refine aK ?_ ?_ <;> intro hc hq <;> try (exfalso; omega))|fail)
    (refine bC (i + 1,u4,m4) (Le.renA [(0,0)]) ?_ ?_)
    ·dsimp only
     refine ⟨by omega,?_,hm4,by omega⟩
     rw [iR,hu4,List.take_of_length_le (by omega),hu3,← hL2,hu,List.append_assoc]; rfl
    ·dsimp only;omega
 ·repeat' (first | refine aE ?_ | (refine aK ?_ ?_ <;> intro hc hq <;> try (exfalso; omega))|fail)
  (refine aV (Le.frzD (d := 6) (i := 0) rfl rfl) ?_; refine aD rfl ?_)
  refine ⟨?_,(by (exact a8 _ _))⟩
  simp only [aN,sl]
  rw [hm,hu,show i = pts.length by omega]
theorem I8 (n:Nat) (A:List Nat) (i:Int) (hA:A.length = n * 6) (hi:0 ≤ i ∧ i < n):PC Tryz.prog 106 [iv i,.iptr [.imm n (flat cW A)]] (fun r => r = .agg (flat cW (cD A i.toNat))):=by
 have h6 : ((A.drop (i.toNat * 6)).take 6).length = 6 := dZ hA (by omega)
 refine aC Tryz.func106 Tryz.ntmps106 ?_
 repeat' (first|refine aE ?_|fail)
 refine aD (gQ (z := 6) rfl rfl h6 (by decide)) ⟨rfl,(by (exact a8 _ _))⟩
theorem MG {ts:List Int}{pts:List Pnt}(w:WG ts pts){Am:List Nat}(gm:l9 ts pts Am) (i:Nat) (hi:i < pts.length):(wM ts pts Am)[i]! < 2 ^ ts.length:=by
 rw [oK _ _ _ hi]
 refine m7 w hi (Nat.lt_pow_two_of_testBit _ fun v hv => ?_)
 rw [Bool.eq_false_iff]; intro hq
 have := rN w ((gm.2 i hi v).1 hq);dsimp only at this;omega
theorem ER (p:Prg) (f:Flows p.types (aB p)) (hv:bD p = true) (hl:p.types.length ≤ 1000000) (hs:bE p.body ≤ 1000000):PC Tryz.prog 40 [cE p] (fun r => r = sl dO (y8 p f)):=by
 have w := WG.of_valid hv
 have hg := iT p hl hs
 rw [if_pos hv] at hg
 have hpl := w.pl
 have hck := Jd 106 p.types p.body (aB p) f.Aa f.Am (wM p.types (aB p) f.Am) f.Af f.Ap w f.ga f.gm (DC _ _ _) (MG w f.gm) f.gf f.gp (fun i hi => I8 _ _ i f.gf.1 hi)
 have hml := f.gm.1
 have hsm : ∀ z : Nat, Sm f.Am[z]! := by
  intro z
  by_cases hz : z < (aB p).length
  ·refine ⟨Nat.lt_of_lt_of_le (Nat.lt_pow_two_of_testBit _ (n := 6) fun v hv => ?_) (by decide)⟩
   cases hq : f.Am[z]!.testBit v with
   | false => rfl
   | true => have := rN w ((f.gm.2 z hz v).1 hq);have := w.tl;dsimp only at *; omega
  ·rw [getElem!_neg f.Am z (by rw [hml]; exact hz)]; exact ⟨by decide⟩
 have hms := sG p.types p.body (aB p) f.Am w f.gm
 have hln := xQ p.types p.body (aB p) f.Af w f.gf
 refine aC Tryz.func40 Tryz.ntmps40 ?_
 repeat' (first|(apply aF;first|(apply aA (k := 72);rfl;exact hg;exact Pur.pf;rfl)|(apply aA (k := 102);rfl;exact hms;exact Pur.pf;rfl))|refine aE ?_|fail)
 refine AW.le ?_ (Le.nilOwn (d := 5) 1 rfl (by decide))
 refine aH (σ := Nat × List Nat) [3,17,18] [] (fun k => [(19,iv (k.1 : Int)),(5,.own 1 0 k.1 1)]) (fun k => [(1,some (flat cN k.2))]) (fun k => k.1 ≤ (aB p).length ∧ k.2 = (wM p.types (aB p) f.Am).take k.1) (fun k => (aB p).length - k.1) (0,[]) ⟨Nat.zero_le _,rfl⟩ ?_
 rintro ⟨k,u⟩ ⟨hk,hu⟩
 dsimp only at hk hu ⊢
 have hvll := DC p.types (aB p) f.Am
 have hul : u.length = k := by rw [hu,List.length_take]; omega
 repeat' (first|(apply aF;first|(apply aA (k := 104);rfl;exact hln;exact Pur.pf;rfl)|(with_reducible apply aW (d := 34))|(apply aA (k := 103);rfl;(apply tO <;> (first|assumption|omega|infer_instance));exact Pur.pf;rfl))|refine aE ?_|(refine aK ?_ ?_ <;> intro hc hq <;> try (exfalso;omega))|fail)
 ·(refine bC (k + 1, _) (Le.renA [(1, 3)]) ?_ ?_)
  ·dsimp only
   refine ⟨by omega,?_⟩
   rw [hu,b6 _ _ (by omega),oK _ _ _ (by omega)]; rfl
  ·dsimp only;omega
 ·have huu : u = wM p.types (aB p) f.Am := by rw [hu, List.take_of_length_le (by omega)]
  refine b0 (c8 ?_ (Le.frzD (d := 5) (i := 1) rfl rfl))
  rw [huu,show k = (aB p).length by omega]
  repeat' (first|(apply aF;first|(apply lO;rfl;rfl;rfl)|(apply aA (k := 105);rfl;exact hck;exact Pur.pf;rfl))|refine aE ?_|fail)
  exact aD rfl ⟨rfl,(by (exact a8 _ _))⟩
theorem C8 (p:Prg) (f:Flows p.types (aB p)) (Al:List Nat) (hal:∀ i,i < (aB p).length → Al[i]! < 2 ^ p.types.length) (hs:bE p.body ≤ 1000000) (w:WG p.types (aB p)) (hr:Rch (aB p)):PC Tryz.prog 169 [cE p,sl gA (bG p.types.length (aB p).length Al)] (fun r => r = sl dO (iC p.types (aB p) f.Aa f.Am Al f.Af f.Ap (aB p).length)):=by
 have hpl := w.pl
 have hp0 := w.p0
 have htl := w.tl
 have hfa := fA p true f.Aa hs w hr (by unfold j3;exact f.ga)
 have hfm := fA p false f.Am hs w hr (by unfold j3;exact f.gm)
 have hfl := vB p f.Af f.Ap hs w f.gf f.gp
 have hra := cS p.types.length (aB p).length f.Aa
 have hrm := cS p.types.length (aB p).length f.Am
 have hrl := cS p.types.length (aB p).length Al
 have hfll : ((List.range (aB p).length).map (eO p.types.length (aB p).length f.Af f.Ap)).length = (aB p).length := by simp
 refine aC Tryz.func169 Tryz.ntmps169 ?_
 repeat' (first|(apply aF;first|(apply aA (k := 132);rfl;exact dF p hs;exact Pur.pf;rfl)|(apply aA (k := 64) (d := 20);rfl;exact hfa;exact Pur.pf;rfl)|(apply aA (k := 64) (d := 22);rfl;exact hfm;exact Pur.pf;rfl)|(apply aA (k := 171);rfl;exact hfl;exact Pur.pf;rfl))|refine aE ?_|fail)
 refine aH (σ := Nat × List Iss × Nat) [1,2,6,7,8,9] [0] (fun s => [(10,iv (s.1 : Int)),(5,.own 1 0 s.2.2 3)]) (fun s => [(1,some (flat dO s.2.1))]) (fun s => s.1 ≤ (aB p).length ∧ s.2.1 = iC p.types (aB p) f.Aa f.Am Al f.Af f.Ap s.1 ∧ s.2.2 = s.2.1.length ∧ s.2.2 ≤ 67 * s.1) (fun s => (aB p).length - s.1) (0,[],0) ⟨Nat.zero_le _,rfl,rfl,Nat.le_refl _⟩ ?_
 rintro ⟨i,L,m⟩ ⟨hi,hL,hm,hmb⟩
 dsimp only at hi hL hm hmb
 try dsimp only
 by_cases hin : i < (aB p).length
 ·repeat' (first | refine aE ?_ | (refine aK ?_ ?_ <;> intro hc hq <;> try (exfalso; omega))|fail)
  refine aH (σ := Nat × List Iss × Nat) [1,2,6,7,8,9,10] [0] (fun s => [(11,iv (s.1 : Int)),(5,.own 1 0 s.2.2 3)]) (fun s => [(1,some (flat dO s.2.1))]) (fun s => s.1 ≤ p.types.length ∧ s.2.1 = L ++ LB p.types (aB p) f.Aa i s.1 ∧ s.2.2 = s.2.1.length ∧ s.2.2 ≤ 67 * i + s.1) (fun s => p.types.length - s.1) (0,L,m) ⟨Nat.zero_le _,(List.append_nil L).symm,hm,hmb⟩ ?_
  rintro ⟨v,L2,m2⟩ ⟨hv,hL2,hm2,hmb2⟩
  dsimp only at hv hL2 hm2 hmb2
  try dsimp only
  by_cases hvn : v < p.types.length
  ·have hga := gR p.types.length (aB p).length f.Aa i v hin hvn
   have hgl : (bG p.types.length (aB p).length f.Aa)[i]!.length = p.types.length := by rw [cL _ _ _ _ hin]; simp
   repeat' (first|(apply aF;(apply aA (k := 173);rfl;(apply jY <;> (omega));exact Pur.pf;rfl))|refine aE ?_|(refine aK ?_ ?_ <;> intro hc hq <;> try (exfalso;omega))|(refine bW ?_ ?_ <;> intro hg hq <;> try (exfalso;omega))|refine bQ ?_|fail)
   ·(refine bC (v + 1, L2 ++ [⟨i, 1, v⟩], m2 + 1) (Le.renA [(0, 0), (1, 3)]) ?_ ?_)
    ·have hu : rI p.types (aB p) f.Aa i v = true := by
      unfold rI;rw [← hga,decide_eq_false (by assumption),(by assumption : (bG p.types.length (aB p).length f.Aa)[i]![v]! = false)]; rfl
     exact ⟨(by show v + 1 ≤ p.types.length;omega),(by show L2 ++ [⟨i,1,v⟩] = _; rw [hL2,List.append_assoc,← zN hu]),(by show m2 + 1 = (L2 ++ [_]).length;rw [List.length_append,List.length_singleton,hm2]),(by show m2 + 1 ≤ 67 * i + (v + 1);omega)⟩
    ·show p.types.length - (v + 1) < p.types.length - v;omega
   ·(refine bC (v + 1, L2, m2) (Le.renA [(0, 0), (1, 1)]) ?_ ?_)
    ·have hu : rI p.types (aB p) f.Aa i v = false := by
      unfold rI;rw [← hga,(by assumption : (bG p.types.length (aB p).length f.Aa)[i]![v]! = true)]; simp
     exact ⟨(by show v + 1 ≤ p.types.length;omega),(by show L2 = _; rw [kH hu]; exact hL2),hm2,(by show m2 ≤ 67 * i + (v + 1);omega)⟩
    ·show p.types.length - (v + 1) < p.types.length - v;omega
   ·(refine bC (v + 1, L2, m2) (Le.renA [(0, 0), (1, 1)]) ?_ ?_)
    ·have hu : rI p.types (aB p) f.Aa i v = false := by
      unfold rI;rw [decide_eq_true (by assumption)]; rfl
     exact ⟨(by show v + 1 ≤ p.types.length;omega),(by show L2 = _; rw [kH hu]; exact hL2),hm2,(by show m2 ≤ 67 * i + (v + 1);omega)⟩
    ·show p.types.length - (v + 1) < p.types.length - v;omega
  ·have hvN : v = p.types.length := by omega
   have hset := w.set i hin
   have hy := w.y i hin
   have hfi : ((List.range (aB p).length).map (eO p.types.length (aB p).length f.Af f.Ap))[i]! = eO p.types.length (aB p).length f.Af f.Ap i := aX _ _ _ hin
   have hgm : (bG p.types.length (aB p).length f.Am)[i]!.length = p.types.length := by rw [cL _ _ _ _ hin]; simp
   have hgl : (bG p.types.length (aB p).length Al)[i]!.length = p.types.length := by rw [cL _ _ _ _ hin]; simp
   have hf2 : (eO p.types.length (aB p).length f.Af f.Ap i).2.length = (aB p).length := by simp [eO]
   have hf1 : (eO p.types.length (aB p).length f.Af f.Ap i).1.length = p.types.length := by simp [eO]
   have hf3 : ∀ v, v < p.types.length → (eO p.types.length (aB p).length f.Af f.Ap i).1[v]!.length = (eO p.types.length (aB p).length f.Af f.Ap i).2.length := fun v hv => by
    rw [hf2]; unfold eO;dsimp only;rw [aX _ _ _ hv]; simp
   have hacc := kU p.types (aB p)[i]! (bG p.types.length (aB p).length f.Am)[i]! htl hgm hset.1 hy
   have hlv := tZ p.types (aB p)[i]! ((List.range (aB p).length).map (eO p.types.length (aB p).length f.Af f.Ap))[i]!.1 ((List.range (aB p).length).map (eO p.types.length (aB p).length f.Af f.Ap))[i]!.2 (bG p.types.length (aB p).length Al)[i]! htl (by rw [hfi,hf2]; exact hpl) hgl (by rw [hfi]; exact hf1) (by rw [hfi]; exact hf3)
   have hlvl : (uZ p.types (aB p)[i]! ((List.range (aB p).length).map (eO p.types.length (aB p).length f.Af f.Ap))[i]!.1 (bG p.types.length (aB p).length Al)[i]! ((List.range (aB p).length).map (eO p.types.length (aB p).length f.Af f.Ap))[i]!.2.length).length = (aB p).length := by unfold uZ;rw [List.length_map,List.length_range,hfi,hf2]
   have hcn := j4 (aB p) (fE p.types (aB p)[i]! (bG p.types.length (aB p).length f.Am)[i]![(aL (aB p)[i]!).toNat]!) ((List.range (aB p).length).map (eO p.types.length (aB p).length f.Af f.Ap))[i]!.1 ((List.range (aB p).length).map (eO p.types.length (aB p).length f.Af f.Ap))[i]!.2 (uZ p.types (aB p)[i]! ((List.range (aB p).length).map (eO p.types.length (aB p).length f.Af f.Ap))[i]!.1 (bG p.types.length (aB p).length Al)[i]! ((List.range (aB p).length).map (eO p.types.length (aB p).length f.Af f.Ap))[i]!.2.length) hpl (by have := pS p.types (aB p)[i]! (bG p.types.length (aB p).length f.Am)[i]![(aL (aB p)[i]!).toNat]!; omega) (by rw [hfi]; exact hf2) hlvl
   have hcf : Ls (aB p) (fE p.types (aB p)[i]! (bG p.types.length (aB p).length f.Am)[i]![(aL (aB p)[i]!).toNat]!) ((List.range (aB p).length).map (eO p.types.length (aB p).length f.Af f.Ap))[i]!.2 (uZ p.types (aB p)[i]! ((List.range (aB p).length).map (eO p.types.length (aB p).length f.Af f.Ap))[i]!.1 (bG p.types.length (aB p).length Al)[i]! ((List.range (aB p).length).map (eO p.types.length (aB p).length f.Af f.Ap))[i]!.2.length) = zB p.types (aB p) f.Am Al f.Af f.Ap i := by
    rw [hfi,hf2]; rfl
   have hcl : (zB p.types (aB p) f.Am Al f.Af f.Ap i).length = (aB p).length := by unfold zB;rw [pX]
   repeat' (first|(apply aF;first|(apply aA (k := 175);rfl;exact hacc;exact Pur.pf;rfl)|(apply aA (k := 176);rfl;exact hlv;exact Pur.pf;rfl)|(apply aA (k := 174);rfl;exact hcn;exact Pur.pf;rfl)|(with_reducible apply aW (d := 14)))|refine aE ?_|(refine aK ?_ ?_ <;> intro hc hq <;> try (exfalso;omega))|refine bQ ?_|fail)
   refine b0 ?_
   rw [hcf]
   repeat' (first|refine aE ?_|fail)
   refine aH (σ := Nat × List Iss × Nat) [1,2,6,7,8,9,10,13] [0] (fun s => [(14,iv (s.1 : Int)),(5,.own 1 0 s.2.2 3)]) (fun s => [(1,some (flat dO s.2.1))]) (fun s => s.1 ≤ (aB p).length ∧ s.2.1 = L2 ++ JK (aB p) (zB p.types (aB p) f.Am Al f.Af f.Ap i) i s.1 ∧ s.2.2 = s.2.1.length ∧ s.2.2 ≤ 67 * i + 6 + s.1) (fun s => (aB p).length - s.1) (0,L2,m2) ⟨Nat.zero_le _,(List.append_nil L2).symm,hm2,by show m2 ≤ 67 * i + 6 + 0;omega⟩ ?_
   rintro ⟨l,L3,m3⟩ ⟨hl,hL3,hm3,hmb3⟩
   dsimp only at hl hL3 hm3 hmb3
   try dsimp only
   by_cases hln : l < (aB p).length
   ·repeat' (first | refine aE ?_ | (refine aK ?_ ?_ <;> intro hc hq <;> try (exfalso; omega))|fail)
    ·(refine bC (l + 1, L3, m3) (Le.renA [(0, 0), (1, 1)]) ?_ ?_)
     ·exact ⟨(by show l + 1 ≤ (aB p).length;omega),(by show L3 = _; rw [uB (by assumption)]; exact hL3),hm3,(by show m3 ≤ 67 * i + 6 + (l + 1);omega)⟩
     ·show (aB p).length - (l + 1) < (aB p).length - l;omega
    ·(refine bC (l + 1, L3 ++ [⟨i, 3, l⟩], m3 + 1) (Le.renA [(0, 0), (1, 3)]) ?_ ?_)
     ·have hk : CN (aB p) l = 3 := by unfold CN; rw [if_pos (by assumption)]
      exact ⟨(by show l + 1 ≤ (aB p).length;omega),(by show L3 ++ [⟨i,3,l⟩] = _; rw [hL3,List.append_assoc,← hk,← mS (by assumption)]),(by show m3 + 1 = (L3 ++ [_]).length;rw [List.length_append,List.length_singleton,hm3]),(by show m3 + 1 ≤ 67 * i + 6 + (l + 1);omega)⟩
     ·show (aB p).length - (l + 1) < (aB p).length - l;omega
    ·(refine bC (l + 1, L3 ++ [⟨i, 2, l⟩], m3 + 1) (Le.renA [(0, 0), (1, 3)]) ?_ ?_)
     ·have hk : CN (aB p) l = 2 := by unfold CN; rw [if_neg (by assumption)]
      exact ⟨(by show l + 1 ≤ (aB p).length;omega),(by show L3 ++ [⟨i,2,l⟩] = _; rw [hL3,List.append_assoc,← hk,← mS (by assumption)]),(by show m3 + 1 = (L3 ++ [_]).length;rw [List.length_append,List.length_singleton,hm3]),(by show m3 + 1 ≤ 67 * i + 6 + (l + 1);omega)⟩
     ·show (aB p).length - (l + 1) < (aB p).length - l;omega
   ·repeat' (first | refine aE ?_ | (refine aK ?_ ?_ <;> intro hc hq <;> try (exfalso; omega))|fail)
    (refine bC (i + 1,L3,m3) (Le.renA [(0,0),(1,1)]) ?_ ?_)
    ·refine ⟨(by show i + 1 ≤ (aB p).length; omega), ?_, hm3, (by show m3 ≤ 67 * (i + 1); omega)⟩
     show L3 = iC p.types (aB p) f.Aa f.Am Al f.Af f.Ap (i + 1)
     rw [iR,← JB w f f.gf.1 hin (hal i hin),hL3,hL2,hL,hvN,show l = (aB p).length by omega,List.append_assoc]
     rfl
    ·show (aB p).length - (i + 1) < (aB p).length - i;omega
 ·repeat' (first | refine aE ?_ | (refine aK ?_ ?_ <;> intro hc hq <;> try (exfalso; omega))|fail)
  have hiN : i = (aB p).length := by omega
  refine aV (Le.frzD (d := 4) (i := 1) rfl rfl) ?_
  refine aD rfl ⟨?_,(by (exact a8 _ _))⟩
  simp only [aN]
  rw [hm,hL,hiN]
theorem Oi {ts:List Int}{pts:List Pnt}(w:WG ts pts){Am:List Nat}{i:Nat}(hi:i < pts.length):iD ts pts[i]! (bG ts.length pts.length Am)[i]! = (bG ts.length pts.length (wM ts pts Am))[i]!:=by
 have hst := (w.set i hi).1
 have htl := w.tl
 have hset : aL pts[i]! < 62 := by omega
 rw [cL _ _ _ _ hi,cL _ _ _ _ hi,oK _ _ _ hi]
 refine bS (by simp [iD]) fun v hv => ?_
 have hvn : v < ts.length := by simpa [iD] using hv
 unfold iD
 rw [aX _ _ _ (by simpa using hvn),aX _ _ _ hvn,aX _ _ _ hvn,c7 hset,decide_eq_true hvn,Bool.true_and]
 cases decide (aL pts[i]! = (v : Int)) <;> cases Am[i]!.testBit v <;> simp
theorem JE {xs:List (List Bool)}{m:Nat}{r:List Bool}(hm:m = xs.length):((flat gA xs).drop 0).take (m * 1) ++ [sl cB r] = flat gA (xs ++ [r]) := dX hm rfl
theorem EK (p:Prg) (f:Flows p.types (aB p)) (hv:bD p = true) (hl:p.types.length ≤ 1000000) (hs:bE p.body ≤ 1000000):PC Tryz.prog 96 [cE p] (fun r => r = sl dO (y8 p f)):=by
 have w := WG.of_valid hv
 have hr := Rch.of p
 have hval := gG p hl (by omega)
 rw [hv] at hval
 have htl := w.tl
 have hpl := w.pl
 have hpt := dF p hs
 have hfm := fA p false f.Am hs w hr (by unfold j3;exact f.gm)
 have hal : ∀ i, i < (aB p).length → (wM p.types (aB p) f.Am)[i]! < 2 ^ p.types.length := fun i hi => by
  rw [oK _ _ _ hi]
  refine m7 w hi (Nat.lt_pow_two_of_testBit _ fun v hv => ?_)
  rw [Bool.eq_false_iff]; intro hq
  have := rN w ((f.gm.2 i hi v).1 hq);dsimp only at this;omega
 have hck := C8 p f (wM p.types (aB p) f.Am) hal hs w hr
 have hrm := cS p.types.length (aB p).length f.Am
 refine aC Tryz.func96 Tryz.ntmps96 ?_
 repeat' (first|(apply aF;first|(apply aA (k := 61);rfl;exact hval;exact Pur.pf;rfl)|(apply aA (k := 132);rfl;exact hpt;exact Pur.pf;rfl)|(apply aA (k := 64);rfl;exact hfm;exact Pur.pf;rfl))|refine aE ?_|fail)
 refine aH (σ := Nat × List (List Bool)) [1,3,4] [0] (fun k => [(6,iv (k.1 : Int)),(5,.own 1 0 k.1 1)]) (fun k => [(1,some (flat gA k.2))]) (fun k => k.1 ≤ (aB p).length ∧ k.2 = (bG p.types.length (aB p).length (wM p.types (aB p) f.Am)).take k.1) (fun k => (aB p).length - k.1) (0,[]) ⟨Nat.zero_le _,rfl⟩ ?_
 rintro ⟨k,u⟩ ⟨hk,hu⟩
 dsimp only at hk hu ⊢
 have hrv := cS p.types.length (aB p).length (wM p.types (aB p) f.Am)
 have hul : u.length = k := by rw [hu,List.length_take]; omega
 have haf : k < (aB p).length → PC Tryz.prog 133 [sl cI p.types, dS (aB p)[k]!, sl cB (bG p.types.length (aB p).length f.Am)[k]!] (fun r => r = sl cB (bG p.types.length (aB p).length (wM p.types (aB p) f.Am))[k]!) := fun h => by
  rw [← Oi w h]
  exact xA p.types (aB p)[k]! (bG p.types.length (aB p).length f.Am)[k]! (by rw [cL _ _ _ _ h]; simp) htl (w.set k h).1
 repeat' (first|(apply aF;first|(apply aA (k := 133);rfl;exact haf (by omega);exact Pur.pf;rfl)|(with_reducible apply aW (d := 36))|(apply bU;rfl;rfl;rfl;rfl;rfl;(rw [aI]; omega);(rfl);omega;omega;(exact JE (by (omega)));rfl;rfl))|refine aE ?_|(refine aK ?_ ?_ <;> intro hc hq <;> try (exfalso;omega))|refine bQ ?_|fail)
 ·(refine bC (k + 1, _) (Le.renA [(0, 0), (1, 3)]) ?_ ?_)
  ·dsimp only
   refine ⟨by omega,?_⟩
   rw [hu,b6 _ _ (by omega)]
  ·dsimp only;omega
 ·have huu : u = bG p.types.length (aB p).length (wM p.types (aB p) f.Am) := by rw [hu, List.take_of_length_le (by omega)]
  refine b0 (c8 ?_ (Le.frzD (d := 5) (i := 1) rfl rfl))
  rw [huu,show AV.imm k (flat gA (bG p.types.length (aB p).length (wM p.types (aB p) f.Am))) = sl gA (bG p.types.length (aB p).length (wM p.types (aB p) f.Am)) from by unfold sl;rw [hrv,show k = (aB p).length by omega]]
  repeat' (first|(apply aF;(apply aA (k := 169);rfl;exact hck;exact Pur.pf;rfl))|refine aE ?_|fail)
  exact aD rfl ⟨rfl,(by (exact a8 _ _))⟩
theorem Er {xs:List AL.Stmt}{m:Nat}{s:AL.Stmt}(hm:m = xs.length):((flat bF xs).drop 0).take (m * 6) ++ ([iv s.op,iv s.x,iv s.y,iv s.n,sl bF s.th,sl bF s.el].drop 0).take (1 * 6) = flat bF (xs ++ [s]) := dX hm (by rw [mV]; rfl)
theorem Nn (c:Nat) (hc:c < 8):PC Tryz.prog 190 [iv (c:Int)] (fun r => r = iJ smL[c]!):=by
 have hl : smL.length = 8 := rfl
 refine aC Tryz.func190 Tryz.ntmps190 ?_
 repeat' (first|(apply aF;(apply aM (cs := flat bF smL);rfl;rfl;rfl;rfl;rfl;rfl))|refine aE ?_|fail)
 exact aD (l := [iJ smL[c]!]) rfl ⟨rfl,Pur.pf⟩
theorem Mr (n:Nat) (hn:n < 4096):PC Tryz.prog 111 [iv (n:Int)] (fun r => r = cE (tI n)):=by
 refine aC Tryz.func111 Tryz.ntmps111 ?_
 repeat' (first|refine aE ?_|fail)
 refine aH (σ := Nat × Nat × List AL.Stmt × Nat) [2,3] [0,1] (fun k => [(9,iv (k.1 : Int)),(0,iv (k.2.1 : Int))]) (fun k => [(3,some [.own 1 0 4 1,.own 2 0 k.2.2.2 6]),(2,some (flat bF k.2.2.1))]) (fun k => k.1 ≤ 4 ∧ k.2.1 ≤ 4096 ∧ k.2.2.1 ++ C1 k.2.1 (4 - k.1) = (tI n).body ∧ k.2.2.2 = k.2.2.1.length ∧ k.2.2.2 = 2 + k.1) (fun k => 4 - k.1) (0,n,PZ,2) ⟨Nat.zero_le _,by show n ≤ 4096;omega,rfl,rfl,rfl⟩ ?_
 rintro ⟨k,m,B,bl⟩ ⟨hk,hm9,hB,hbl,hb2⟩
 dsimp only at hk hm9 hB hbl hb2 ⊢
 have hst := Nn (m % 8) (Nat.mod_lt _ (by decide))
 repeat' (first|(apply aF;first|(apply aA (k := 190);rfl;exact hst;(rfl);rfl)|(apply bU;rfl;rfl;rfl;rfl;rfl;(rw [aI]; omega);(rfl);omega;omega;(exact Er (by (assumption)));rfl;rfl))|refine aE ?_|(refine aK ?_ ?_ <;> intro hc hq <;> try (exfalso;omega))|refine bQ ?_|fail)
 ·(refine bC (k + 1, m / 8, B ++ [smL[m % 8]!], bl + 1) (Le.renA [(0, 0), (1, 1), (2, 5), (3, 3)]) ?_ ?_)
  ·refine ⟨by show k + 1 ≤ 4; omega, by show m / 8 ≤ 4096; omega, ?_, by show bl + 1 = (B ++ [_]).length; rw [List.length_append, hbl]; rfl, by show bl + 1 = 2 + (k + 1); omega⟩
   show (B ++ [smL[m % 8]!]) ++ C1 (m / 8) (4 - (k + 1)) = _
   rw [← hB,show 4 - k = (4 - (k + 1)) + 1 by omega,C1,List.append_assoc]; rfl
  ·show 4 - (k + 1) < 4 - k;omega
 ·have e : B = (tI n).body := by rw [← hB, show 4 - k = 0 by omega, C1, List.append_nil]
  refine aV ((Le.frzC (j := 0) (i := 1) [] rfl rfl (by decide)).trans (Le.frzC (j := 0) (i := 2) [_] rfl rfl (by decide))) ?_
  rw [hbl,e]
  exact aD (l := [cE (tI n)]) rfl ⟨rfl,Pur.pf⟩
theorem MK:PC Tryz.prog 162 [] (fun r => r = sl cI [1,2,3,4]):=by
 refine aC Tryz.func162 Tryz.ntmps162 ?_
 repeat' (first|(apply aF;(apply aM (t := _);rfl;rfl;rfl;(exact (rfl:_=some [_,_,_,_]));rfl;rfl))|refine aE ?_|fail)
 exact aD rfl ⟨rfl,rfl⟩
theorem GD:PC Tryz.prog 163 [] (fun r => r = sl bF smL):=by
 refine aC Tryz.func163 Tryz.ntmps163 ?_
 repeat' (first|(apply aF;(apply aM (cs := flat bF smL);rfl;rfl;rfl;rfl;rfl;rfl))|refine aE ?_|fail)
 exact aD rfl ⟨rfl,(by (rfl))⟩
theorem Ij:PC Tryz.prog 164 [] (fun r => r = iv 4):=by
 refine aC Tryz.func164 Tryz.ntmps164 ?_
 repeat' (first|refine aE ?_|fail)
 exact aD rfl ⟨rfl,rfl⟩
theorem Me:PC Tryz.prog 110 [] (fun r => r = iv 4096):=by
 refine aC Tryz.func110 Tryz.ntmps110 ?_
 repeat' (first|refine aE ?_|fail)
 exact aD rfl ⟨rfl,rfl⟩
theorem Jb:PC Tryz.prog 112 [] (fun r => r = iv 4096):=by
 refine aC Tryz.func112 Tryz.ntmps112 ?_
 have hst : PC Tryz.prog 163 [] (fun r => r = .imm 8 (flat bF smL)) := GD
 have hz := Ij
 repeat' (first|refine aE ?_|fail)
 refine aH (σ := Nat × Nat) [] [] (fun k => [(2,iv (k.1 : Int)),(1,iv (k.2 : Int))]) (fun k => []) (fun k => k.1 ≤ 4 ∧ k.2 = 8 ^ k.1 ∧ k.2 ≤ 4096) (fun k => 4 - k.1) (0,1) ⟨Nat.zero_le _,rfl,by decide⟩ ?_
 rintro ⟨k,m⟩ ⟨hk,hm,hm9⟩
 dsimp only at hk hm hm9 ⊢
 repeat' (first|(apply aF;first|(apply aA (k := 164);rfl;exact hz;(rfl);rfl)|(apply aA (k := 163);rfl;exact hst;(rfl);rfl))|refine aE ?_|(refine aK ?_ ?_ <;> intro hc hq <;> try (exfalso;omega))|fail)
 ·(refine bC (k + 1, m * 8) (Le.renA []) ?_ ?_)
  ·have h1 : 8 ^ k ≤ 8 ^ 3 := Nat.pow_le_pow_right (by decide) (by omega)
   exact ⟨by show k + 1 ≤ 4;omega,by show m * 8 = 8 ^ (k + 1);rw [hm,Nat.pow_succ],by show m * 8 ≤ 4096;omega⟩
  ·show 4 - (k + 1) < 4 - k;omega
 ·obtain rfl : k = 4 := by omega
  rw [hm]
  exact aD (l := [iv 4096]) rfl ⟨rfl,rfl⟩
theorem NA (n:Nat) (hn:n < 4096):PC Tryz.prog 92 [iv (n:Int)] (fun r => r = cE (tI n)):=by
 have h8 : smL.length = 8 := rfl
 have hst := GD
 have hty := MK
 have hz := Ij
 refine aC Tryz.func92 Tryz.ntmps92 ?_
 repeat' (first|(apply aF;first|(apply aA (k := 162);rfl;exact hty;(rfl);rfl)|(apply aA (k := 163);rfl;exact hst;(rfl);rfl))|refine aE ?_|fail)
 refine aH (σ := Nat × Nat × List AL.Stmt × Nat) [2,3,4] [0] (fun k => [(5,iv (k.1 : Int)),(0,iv (k.2.1 : Int))]) (fun k => [(2,some [sl cI [1,2,3,4],.own 1 0 k.2.2.2 6]),(1,some (flat bF k.2.2.1))]) (fun k => k.1 ≤ 4 ∧ k.2.1 ≤ 4096 ∧ k.2.2.1 ++ C1 k.2.1 (4 - k.1) = (tI n).body ∧ k.2.2.2 = k.2.2.1.length ∧ k.2.2.2 = 2 + k.1) (fun k => 4 - k.1) (0,n,PZ,2) ⟨Nat.zero_le _,by show n ≤ 4096;omega,rfl,rfl,rfl⟩ ?_
 rintro ⟨k,m,B,bl⟩ ⟨hk,hm9,hB,hbl,hb2⟩
 dsimp only at hk hm9 hB hbl hb2 ⊢
 repeat' (first|(apply aF;first|(apply aA (k := 164);rfl;exact hz;(rfl);rfl)|(apply bU;rfl;rfl;rfl;rfl;rfl;(rw [aI]; omega);(rfl);omega;omega;(exact Er (by (assumption)));rfl;rfl))|refine aE ?_|(refine aK ?_ ?_ <;> intro hc hq <;> try (exfalso;omega))|refine bQ ?_|fail)
 ·(refine bC (k + 1, m / 8, B ++ [smL[m % 8]!], bl + 1) (Le.renA [(0, 0), (1, 4), (2, 2)]) ?_ ?_)
  ·refine ⟨by show k + 1 ≤ 4; omega, by show m / 8 ≤ 4096; omega, ?_, by show bl + 1 = (B ++ [_]).length; rw [List.length_append, hbl]; rfl, by show bl + 1 = 2 + (k + 1); omega⟩
   show (B ++ [smL[m % 8]!]) ++ C1 (m / 8) (4 - (k + 1)) = _
   rw [← hB,show 4 - k = (4 - (k + 1)) + 1 by omega,C1,List.append_assoc]; rfl
  ·show 4 - (k + 1) < 4 - k;omega
 ·have e : B = (tI n).body := by rw [← hB, show 4 - k = 0 by omega, C1, List.append_nil]
  refine aV (Le.frzC (j := 0) (i := 1) [_] rfl rfl (by decide)) ?_
  rw [hbl,e]
  exact aD (l := [cE (tI n)]) rfl ⟨rfl,Pur.pf⟩
def DO (l : List Iss) : List AV := [sl dO l]
instance : FlT DO 1:=⟨fun _ => rfl⟩
instance : FE DO (fun r => [sl dO r]):=⟨fun _ => rfl⟩
instance (r : List Iss) : Pur (DO r):=⟨by show (AV.pur (sl dO r) && true) = true;rw [Bool.and_true]; exact a8 dO r⟩
theorem E4 (p:Prg) (hv:bD p = false) (hl:p.types.length ≤ 1000000) (hs:bE p.body ≤ 1000000):PC Tryz.prog 37 [cE p] (fun r => r = .tup [iv 0,bv false]):=by
 have h3 := oI p hl (by omega)
 rw [hv] at h3
 refine aC Tryz.func37 Tryz.ntmps37 ?_
 repeat' (first|(apply aF;(apply aA (k := 39);rfl;exact h3;exact Pur.pf;rfl))|refine aE ?_|fail)
 exact aD rfl ⟨rfl,rfl⟩
theorem G1 (p:Prg) (A B C:List Iss) (b:Bool) (hv:bD p = true) (hl:p.types.length ≤ 1000000) (hs:bE p.body ≤ 1000000) (h1:PC Tryz.prog 40 [cE p] (fun r => r = sl dO A)) (h2:PC Tryz.prog 41 [cE p] (fun r => r = sl dO B))
  (h4 : PC Tryz.prog 70 [cE p] (fun r => r = sl dO C)) (h5 : PC Tryz.prog 95 [cE p,iv 3] (fun r => r = bv b)) : PC Tryz.prog 37 [cE p] (fun r => r = .tup [iv (xP [A,B,C] : Int),bv b]) := by
 have h3 := oI p hl (by omega)
 rw [hv] at h3
 refine aC Tryz.func37 Tryz.ntmps37 ?_
 repeat' (first|(apply aF;first|(apply aA (k := 39);rfl;exact h3;exact Pur.pf;rfl)|(apply aA (k := 40);rfl;exact h1;exact Pur.pf;rfl)|(apply aA (k := 41);rfl;exact h2;exact Pur.pf;rfl)|(apply aA (k := 70);rfl;exact h4;exact Pur.pf;rfl))|refine aE ?_|refine bQ ?_|fail)
 refine AW.le ?_ (Le.frzD (d := 16) (i := 1) (cs := flat DO [A,B,C]) rfl rfl)
 have hLl : [A,B,C].length = 3 := rfl
 generalize [A,B,C] = L at *
 refine aH (σ := Nat × Nat) [1,16,17] [0] (fun k => [(18,iv (k.1 : Int)),(4,iv (k.2 : Int))]) (fun k => []) (fun k => k.1 ≤ 3 ∧ k.2 = xP (L.take k.1) ∧ k.2 ≤ k.1) (fun k => 3 - k.1) (0,0) ⟨Nat.zero_le _,rfl,Nat.le_refl _⟩ ?_
 rintro ⟨k,c⟩ ⟨hk,hc0,hck⟩
 dsimp only at hk hc0 hck ⊢
 have hst : k < 3 → xP (L.take (k + 1)) = c + (if L[k]! = [] then 0 else 1) := fun h => by rw [b6 _ _ (by omega),Is,← hc0]
 repeat' (first|(apply aF;(apply aA (k := 95);rfl;exact h5;exact Pur.pf;rfl))|refine aE ?_|(refine aK ?_ ?_ <;> intro hc hq <;> try (exfalso;omega))|fail)
 ·(refine bC (k + 1, c + 1) (Le.renA [(0, 0)]) ?_ ?_)
  ·refine ⟨by show k + 1 ≤ 3; omega, ?_, by show c + 1 ≤ k + 1; omega⟩
   show c + 1 = xP (L.take (k + 1))
   rw [hst (by omega),if_neg (fun e => by rw [e] at hq;simp at hq)]
  ·show 3 - (k + 1) < 3 - k;omega
 ·(refine bC (k + 1, c) (Le.renA [(0, 0)]) ?_ ?_)
  ·refine ⟨by show k + 1 ≤ 3; omega, ?_, by show c ≤ k + 1; omega⟩
   show c = xP (L.take (k + 1))
   rw [hst (by omega),if_pos (List.eq_nil_of_length_eq_zero (by omega))]; rfl
  ·show 3 - (k + 1) < 3 - k;omega
 ·have e : c = xP L := by rw [hc0, List.take_of_length_le (by omega)]
  rw [e]
  exact aD rfl ⟨rfl,rfl⟩
theorem Kg (A B C:List Iss):xP [A,B,C] = (if 0 < A.length then 1 else 0) + (if 0 < B.length then 1 else 0) + (if 0 < C.length then 1 else 0):=by
 cases A <;> cases B <;> cases C <;> rfl
theorem EA (p:Prg) (hv:bD p = false) (hl:p.types.length ≤ 1000000) (hs:bE p.body ≤ 1000000):PC Tryz.prog 38 [cE p] (fun r => r = .tup [iv 0,bv false]):=by
 have h3 := gG p hl (by omega)
 rw [hv] at h3
 refine aC Tryz.func38 Tryz.ntmps38 ?_
 repeat' (first|(apply aF;(apply aA (k := 61);rfl;exact h3;exact Pur.pf;rfl))|refine aE ?_|fail)
 exact aD rfl ⟨rfl,rfl⟩
theorem Iu (p:Prg) (A B C:List Iss) (b:Bool) (hv:bD p = true) (hl:p.types.length ≤ 1000000) (hs:bE p.body ≤ 1000000) (h1:PC Tryz.prog 96 [cE p] (fun r => r = sl dO A)) (h2:PC Tryz.prog 97 [cE p] (fun r => r = sl dO B))
  (h4 : PC Tryz.prog 98 [cE p] (fun r => r = sl dO C)) (h5 : PC Tryz.prog 99 [cE p,iv 3] (fun r => r = bv b)) : PC Tryz.prog 38 [cE p] (fun r => r = .tup [iv (xP [A,B,C] : Int),bv b]) := by
 have h3 := gG p hl (by omega)
 rw [hv] at h3
 refine aC Tryz.func38 Tryz.ntmps38 ?_
 repeat' (first|(apply aF;first|(apply aA (k := 61);rfl;exact h3;exact Pur.pf;rfl)|(apply aA (k := 96);rfl;exact h1;exact Pur.pf;rfl)|(apply aA (k := 97);rfl;exact h2;exact Pur.pf;rfl)|(apply aA (k := 98);rfl;exact h4;exact Pur.pf;rfl)|(apply aA (k := 99);rfl;exact h5;exact Pur.pf;rfl))|refine aE ?_|(refine aK ?_ ?_ <;> intro hc hq <;> try (exfalso;omega))|fail)
 all_goals (refine aD rfl ⟨?_,rfl⟩; simp only [aN]; rw [Kg]; split <;> split <;> split <;> first|(exfalso;omega)|rfl)
theorem zA (n:Nat):bE (tI n).body ≤ 1000000 ∧ (tI n).types.length ≤ 1000000:=by
 rw [DQ]; exact ⟨by decide,by show 4 ≤ 1000000;decide⟩
noncomputable def Cw (p : Prg) : Nat × Bool := if hv : bD p = true then (xP (NB p hv),rP p 3 && (Ab p 3).isNone) else (0,false)
theorem IS (p:Prg) (hv:bD p = true):Cw p = (xP (NB p hv),rP p 3 && (Ab p 3).isNone) := dif_pos hv
theorem L8 (p:Prg) (hv:bD p = false):Cw p = (0,false) := dif_neg (by rw [hv]; decide)
theorem Fe (p:Prg) (hl:p.types.length ≤ 1000000) (hs:bE p.body ≤ 1000000):PC Tryz.prog 37 [cE p] (fun r => r = .tup [iv ((Cw p).1:Int),bv (Cw p).2]):=by
 cases hv : bD p
 ·rw [L8 p hv]; exact E4 p hv hl hs
 ·rw [IS p hv]
  have hc := G7 p (n8 p hv) hl hs
  rw [show Fp p (n8 p hv) = (n8 p hv).iss from if_pos hv] at hc
  exact G1 p _ _ _ _ hv hl hs (ER p (n8 p hv) hv hl hs) (Gc p (n8 p hv) (LY p hv) (CW p hv) hv hl hs) hc (KY p 3 hl hs)
theorem Fl (p:Prg) (hl:p.types.length ≤ 1000000) (hs:bE p.body ≤ 1000000):PC Tryz.prog 38 [cE p] (fun r => r = .tup [iv ((Cw p).1:Int),bv (Cw p).2]):=by
 cases hv : bD p
 ·rw [L8 p hv]; exact EA p hv hl hs
 ·rw [IS p hv]
  have hc := GZ p (n8 p hv) hl hs
  rw [show Fp p (n8 p hv) = (n8 p hv).iss from if_pos hv] at hc
  exact Iu p _ _ _ _ hv hl hs (EK p (n8 p hv) hv hl hs) (F1 p (n8 p hv) (LY p hv) (CW p hv) hv hl hs) hc (JO p 3 hl hs)
theorem NJ (p:Prg) (hv:bD p = true):(Cw p).1 ≤ 3 ∧ ((Cw p).1 ≠ 3 → (Cw p).2 = true ∧ (n8 p hv).iss = []):=by
 have h := Ke p hv
 rw [IS p hv]
 refine ⟨h.1,fun h3 => ?_⟩
 have hi := h.2.1 h3
 exact ⟨Hi (L := []) (fun _ => ⟨n8 p hv,hi.symm⟩) (by rw [hv]; rfl) (by decide) (by decide),hi⟩
theorem Jn (bs:List UInt8) (hb:bs.length ≤ 1048576):PC Tryz.prog 42 [sl cU bs] (fun r => ∃ (f k:Int) (b:Bool),r = .tup [iv f,iv k,bv b]):=by
 have hb2 : (bs.take 2000).length ≤ 2000 := by rw [List.length_take]; omega
 refine aC Tryz.func42 Tryz.ntmps42 ?_
 repeat' (first|(apply aF;first|(apply aM (t := _);rfl;rfl;rfl;(first|exact (rfl:_=some [_,_,_,_,_])|exact (rfl:_=some [_,_,_,_,_,_,_]));rfl;rfl)|(first|(apply Dh;rfl;(apply F4 <;> (assumption));rfl;rfl)|(apply Ei;rfl;rfl;(rfl);(apply Gw <;> (first|assumption|omega));rfl;rfl)|(apply MJ;rfl;rfl;infer_instance;rfl;(rfl);assumption;omega;(decide);(decide);rfl;rfl)))|refine aE ?_|fail)
 exact aD (l := [iv _,iv _,bv _]) rfl ⟨⟨_,_,_,rfl⟩,rfl⟩
noncomputable def Ff (ref : Int) (sf : Bool) (n : Nat) : Bool := decide (((Cw (tI n)).1 : Int) = ref) && ((Cw (tI n)).2 == sf)
theorem fjP_iff {ref:Int}{sf:Bool}{n:Nat}:Ff ref sf n = true ↔ ((Cw (tI n)).1:Int) = ref ∧ (Cw (tI n)).2 = sf:=by
 unfold Ff;rw [Bool.and_eq_true,decide_eq_true_eq,beq_iff_eq]
theorem Au (P:Nat → Bool) (f:Nat):∀ d,(∃ n,f ≤ n ∧ n < f + d ∧ P n = true ∧ ∀ m,f ≤ m → m < n → P m = false) ∨ (∀ n,f ≤ n → n < f + d → P n = false)
 | 0 => .inr fun n h1 h2 => by omega
 | d + 1 => by
  rcases Au P f d with ⟨n,h1,h2,h3,h4⟩|h
  ·exact .inl ⟨n,h1,by omega,h3,h4⟩
  ·cases hp : P (f + d) with
   | true => exact .inl ⟨f + d,by omega,by omega,hp,fun m h1 h2 => h m h1 (by omega)⟩
   | false =>
    refine .inr fun n h1 h2 => ?_
    by_cases e : n = f + d
    ·rw [e]; exact hp
    ·exact h n h1 (by omega)
def FJo (ref : Int) (sf : Bool) (f : Nat) (o : Option Nat) : Prop := match o with
 | some n => f ≤ n ∧ n < f + min 200 (4096 - f) ∧ Ff ref sf n = true ∧ ∀ m,f ≤ m → m < n → Ff ref sf m = false
 | none => ∀ n,f ≤ n → n < f + min 200 (4096 - f) → Ff ref sf n = false
theorem FJo.ex (ref:Int) (sf:Bool) (f:Nat):∃ o,FJo ref sf f o:=by
 rcases Au (Ff ref sf) f (min 200 (4096 - f)) with ⟨n,h⟩|h
 ·exact ⟨some n,h⟩
 ·exact ⟨none,h⟩
theorem FJo.at {ref:Int}{sf:Bool}{f k:Nat}{o:Option Nat}(h:FJo ref sf f o) (hk:f ≤ k) (hk2:k < f + min 200 (4096 - f)) (hp:Ff ref sf k = true) (hb:∀ m,f ≤ m → m < k → Ff ref sf m = false):o = some k:=by
 cases o with
 | none => have := h k hk hk2;rw [hp] at this;cases this
 | some n =>
  obtain ⟨h1,h2,h3,h4⟩ := h
  rcases Nat.lt_trichotomy n k with q|q|q
  ·have := hb n h1 q;rw [h3] at this;cases this
  ·rw [q]
  ·have := h4 k hk q;rw [hp] at this;cases this
theorem FJo.no {ref:Int}{sf:Bool}{f:Nat}{o:Option Nat}(h:FJo ref sf f o) (hb:∀ m,f ≤ m → m < f + min 200 (4096 - f) → Ff ref sf m = false):o = none:=by
 cases o with
 | none => rfl
 | some n => obtain ⟨h1,h2,h3,h4⟩ := h;have := hb n h1 h2;rw [h3] at this;cases this
theorem OY (f:Nat) (ref:Int) (sf:Bool) (o:Option Nat) (ho:FJo ref sf f o) (hf:f < 4096):PC Tryz.prog 43 [iv (f:Int),iv ref,bv sf] (fun r => r = .tup [iv ((o.getD 0:Nat):Int),bv o.isSome]):=by
 obtain ⟨T,hT,ht⟩ : ∃ T : Int,T = 4096 ∧ PC Tryz.prog 110 [] (fun r => r = iv T) := ⟨4096,rfl,Me⟩
 have hat := fun k => @FJo.at ref sf f k o ho
 have hno := FJo.no ho
 obtain ⟨d,hd⟩ : ∃ d,d = min 200 (4096 - f) := ⟨_,rfl⟩
 rw [← hd] at hat hno
 have hd1 : f + d ≤ 4096 ∧ d ≤ 200 ∧ (f + d = 4096 ∨ d = 200) := by omega
 clear hd
 refine aC Tryz.func43 Tryz.ntmps43 ?_
 repeat' (first|refine aE ?_|fail)
 refine aH (σ := Nat) [0,1,2] [] (fun k => [(8,iv (k : Int))]) (fun k => []) (fun k => f ≤ k ∧ k ≤ f + d ∧ ∀ m,f ≤ m → m < k → Ff ref sf m = false) (fun k => 4096 - k) (f) ⟨Nat.le_refl _,by omega,fun m h1 h2 => by omega⟩ ?_
 rintro k ⟨hk1,hk2,hkb⟩
 have hj := Fe (tI k) (zA k).2 (zA k).1
 have hp : k < 4096 → _ := fun h => Mr k h
 have hu := @fjP_iff ref sf k
 generalize Cw (tI k) = J at *
 repeat' (first|(apply aF;first|(apply aA (k := 110);rfl;exact ht;(rfl);rfl)|(apply aA (k := 111);rfl;exact hp (by omega);(rfl);rfl)|(apply aA (k := 37);rfl;exact hj;exact Pur.pf;rfl))|refine aE ?_|(refine aK ?_ ?_ <;> intro hc hq <;> try (exfalso;omega))|(refine bW ?_ ?_ <;> intro hg hq <;> try (exfalso;omega))|fail)
 ·have e := hat k hk1 (by omega) (hu.2 ⟨by assumption, by assumption⟩) hkb
  subst e
  exact aD (l := [iv (k : Int),bv true]) rfl ⟨rfl,rfl⟩
 ·(refine bC (k + 1) (Le.renA []) ?_ ?_)
  ·refine ⟨by omega, by omega, fun m h1 h2 => ?_⟩
   by_cases q : m = k
   ·subst q;rw [Bool.eq_false_iff]; intro h;exact absurd (hu.1 h).2 (by assumption)
   ·exact hkb m h1 (by omega)
  ·omega
 ·(refine bC (k + 1) (Le.renA []) ?_ ?_)
  ·refine ⟨by omega, by omega, fun m h1 h2 => ?_⟩
   by_cases q : m = k
   ·subst q;rw [Bool.eq_false_iff]; intro h;exact absurd (hu.1 h).1 (by assumption)
   ·exact hkb m h1 (by omega)
  ·omega
 all_goals
  have e := hno (fun m h1 h2 => hkb m h1 (by omega))
  subst e
  exact aD (l := [iv 0,bv false]) rfl ⟨rfl,rfl⟩
theorem Mv (f ref:Int) (sf:Bool) (hf:f < 0 ∨ 4096 ≤ f):PC Tryz.prog 43 [iv f,iv ref,bv sf] (fun r => r = .tup [iv 0,bv false]):=by
 obtain ⟨T,hT,ht⟩ : ∃ T : Int,T = 4096 ∧ PC Tryz.prog 110 [] (fun r => r = iv T) := ⟨4096,rfl,Me⟩
 refine aC Tryz.func43 Tryz.ntmps43 ?_
 repeat' (first|refine aE ?_|(refine aK ?_ ?_ <;> intro hc hq <;> try (exfalso;omega))|fail)
 ·exact aD (l := [iv 0,bv false]) rfl ⟨rfl,rfl⟩
 ·refine aH (σ := Unit) [0, 1, 2] [] (fun _u => [(8, iv f)]) (fun _u => []) (fun _u => True) (fun _u => 0) () trivial ?_
  intro _ _
  repeat' (first|(apply aF;(apply aA (k := 110);rfl;exact ht;(rfl);rfl))|refine aE ?_|(refine bW ?_ ?_ <;> intro hg hq <;> try (exfalso;omega))|fail)
  exact aD (l := [iv 0,bv false]) rfl ⟨rfl,rfl⟩
theorem Pc (f:Nat) (ref:Int) (sf:Bool) (o:Option Nat) (ho:FJo ref sf f o) (hf:f < 4096):PC Tryz.prog 44 [iv (f:Int),iv ref,bv sf] (fun r => r = .tup [iv ((o.getD 0:Nat):Int),bv o.isSome]):=by
 obtain ⟨T,hT,ht⟩ : ∃ T : Int,T = 4096 ∧ PC Tryz.prog 112 [] (fun r => r = iv T) := ⟨4096,rfl,Jb⟩
 have hat := fun k => @FJo.at ref sf f k o ho
 have hno := FJo.no ho
 obtain ⟨d,hd⟩ : ∃ d,d = min 200 (4096 - f) := ⟨_,rfl⟩
 rw [← hd] at hat hno
 have hd1 : f + d ≤ 4096 ∧ d ≤ 200 ∧ (f + d = 4096 ∨ d = 200) := by omega
 clear hd
 refine aC Tryz.func44 Tryz.ntmps44 ?_
 repeat' (first|refine aE ?_|fail)
 refine aH (σ := Nat) [0,1,2] [] (fun k => [(8,iv (k : Int))]) (fun k => []) (fun k => f ≤ k ∧ k ≤ f + d ∧ ∀ m,f ≤ m → m < k → Ff ref sf m = false) (fun k => 4096 - k) (f) ⟨Nat.le_refl _,by omega,fun m h1 h2 => by omega⟩ ?_
 rintro k ⟨hk1,hk2,hkb⟩
 have hj := Fl (tI k) (zA k).2 (zA k).1
 have hp : k < 4096 → _ := fun h => NA k h
 have hu := @fjP_iff ref sf k
 generalize Cw (tI k) = J at *
 repeat' (first|(apply aF;first|(apply aA (k := 112);rfl;exact ht;(rfl);rfl)|(apply aA (k := 92);rfl;exact hp (by omega);(rfl);rfl)|(apply aA (k := 38);rfl;exact hj;exact Pur.pf;rfl))|refine aE ?_|(refine aK ?_ ?_ <;> intro hc hq <;> try (exfalso;omega))|(refine bW ?_ ?_ <;> intro hg hq <;> try (exfalso;omega))|fail)
 ·have e := hat k hk1 (by omega) (hu.2 ⟨by assumption, by assumption⟩) hkb
  subst e
  exact aD (l := [iv (k : Int),bv true]) rfl ⟨rfl,rfl⟩
 ·(refine bC (k + 1) (Le.renA []) ?_ ?_)
  ·refine ⟨by omega, by omega, fun m h1 h2 => ?_⟩
   by_cases q : m = k
   ·subst q;rw [Bool.eq_false_iff]; intro h;exact absurd (hu.1 h).2 (by assumption)
   ·exact hkb m h1 (by omega)
  ·omega
 ·(refine bC (k + 1) (Le.renA []) ?_ ?_)
  ·refine ⟨by omega, by omega, fun m h1 h2 => ?_⟩
   by_cases q : m = k
   ·subst q;rw [Bool.eq_false_iff]; intro h;exact absurd (hu.1 h).1 (by assumption)
   ·exact hkb m h1 (by omega)
  ·omega
 all_goals
  have e := hno (fun m h1 h2 => hkb m h1 (by omega))
  subst e
  exact aD (l := [iv 0,bv false]) rfl ⟨rfl,rfl⟩
theorem Mu (f ref:Int) (sf:Bool) (hf:f < 0 ∨ 4096 ≤ f):PC Tryz.prog 44 [iv f,iv ref,bv sf] (fun r => r = .tup [iv 0,bv false]):=by
 obtain ⟨T,hT,ht⟩ : ∃ T : Int,T = 4096 ∧ PC Tryz.prog 112 [] (fun r => r = iv T) := ⟨4096,rfl,Jb⟩
 refine aC Tryz.func44 Tryz.ntmps44 ?_
 repeat' (first|refine aE ?_|(refine aK ?_ ?_ <;> intro hc hq <;> try (exfalso;omega))|fail)
 ·exact aD (l := [iv 0,bv false]) rfl ⟨rfl,rfl⟩
 ·refine aH (σ := Unit) [0, 1, 2] [] (fun _u => [(8, iv f)]) (fun _u => []) (fun _u => True) (fun _u => 0) () trivial ?_
  intro _ _
  repeat' (first|(apply aF;(apply aA (k := 112);rfl;exact ht;(rfl);rfl))|refine aE ?_|(refine bW ?_ ?_ <;> intro hg hq <;> try (exfalso;omega))|fail)
  exact aD (l := [iv 0,bv false]) rfl ⟨rfl,rfl⟩
theorem Ml (f ref:Int) (sf:Bool):∃ o:Option Nat,PC Tryz.prog 43 [iv f,iv ref,bv sf] (fun r => r = .tup [iv ((o.getD 0:Nat):Int),bv o.isSome]) ∧ PC Tryz.prog 44 [iv f,iv ref,bv sf] (fun r => r = .tup [iv ((o.getD 0:Nat):Int),bv o.isSome]) ∧
  (∀ n,o = some n → 0 ≤ f ∧ f ≤ n ∧ n < 4096 ∧ Ff ref sf n = true ∧ ∀ m : Nat,f ≤ m → m < n → Ff ref sf m = false) := by
 by_cases h : f < 0 ∨ 4096 ≤ f
 ·exact ⟨none,Mv f ref sf h,Mu f ref sf h,fun n e => by cases e⟩
 ·obtain ⟨k, rfl⟩ : ∃ k : Nat, f = k := ⟨f.toNat, by omega⟩
  obtain ⟨o,ho⟩ := FJo.ex ref sf k
  refine ⟨o,OY k ref sf o ho (by omega),Pc k ref sf o ho (by omega),fun n e => ?_⟩
  subst e
  obtain ⟨h1,h2,h3,h4⟩ := ho
  exact ⟨by omega,by omega,by omega,h3,fun m q1 q2 => h4 m (by omega) q2⟩
end Go.Proofs.YtahdccneecdmmaaGreat
