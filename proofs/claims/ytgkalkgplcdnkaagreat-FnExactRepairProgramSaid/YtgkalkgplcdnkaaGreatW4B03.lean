/-
 A part of the proofs over this program: rules and contracts of its functions (the contracts).
-/
import Derived.Test.YtgkalkgplcdnkaaGreatW4B02
import Derived.Test.YtgkalkgplcdnkaaGreatRows
import Derived.WalkKit
import Derived.ProofKit
import Derived.OpenShut
import Derived.Carry
import Derived.ChangeSlices
import Derived.Shelf.Spec.SlicesInsert
import Derived.Lib.AppendZerosOnto
import Derived.Laws.NewBlocks
set_option linter.unusedVariables false
set_option linter.unusedSimpArgs false
set_option maxHeartbeats 8000000
set_option maxRecDepth 4000
attribute [local irreducible] Go.AL.RW Go.AL.AW Go.AL.Stop
namespace Go.Proofs.YtgkalkgplcdnkaaGreat
open Go.AL Go.RowKit
variable {N : Nat} {Q : Exit → AS → Prop} {all : Array Oper} {rest : List Oper} {tsl : List (Nat × AV)} {hsl : List (Nat × Option (List AV))} {nidl : Nat} {z0 : Lo} {md : Md} {d : Nat} {ty : TypeId} {pos : String} {af : Array Edge} {tys : Array TypeId}
def Di (nv N : Nat) (i : Nat) : List AV := [.imm nv (flat (vK (i * (nv + 1)) N) (List.range nv)),.own (i * (nv + 1) + nv + aY) 0 N 1]
instance (nv N : Nat) : FlT (Di nv N) 2:=⟨fun _ => rfl⟩
instance (nv N : Nat) : FE (Di nv N) (fun i => [.imm nv (flat (vK (i * (nv + 1)) N) (List.range nv)),.own (i * (nv + 1) + nv + aY) 0 N 1]):=⟨fun _ => rfl⟩
theorem nW {m:List (Nat × Nat)}{lo:Lo}{pn:Option Nat}{nv N k M:Nat}(hk:k ≤ M) (h:lo.fb = aY + M * (nv + 1)):RnL (iD m lo pn) (flat (Di nv N) (List.range k)) (flat (Di nv N) (List.range k)) :=
 RnL.flt fun i hi => by
  rw [List.mem_range] at hi
  have h1 : i * (nv + 1) + nv < M * (nv + 1) := fH (by omega) (by omega)
  exact .cons (.imm (cU (by rw [h]; omega))) (.cons (.own (fU (by omega) (by rw [h]; omega))) .nil)
theorem EE {m:List (Nat × Nat)}{lo:Lo}{pn:Option Nat}{nv N k:Nat}(h:lo.fb = aY + (k + 1) * (nv + 1)):RnL (iD m lo pn) (flat (Di nv N) (List.range (k + 1))) (((flat (Di nv N) (List.range k)).drop 0).take (k * 2) ++ Di nv N k):=by
 have e : ((flat (Di nv N) (List.range k)).drop 0).take (k * 2) = flat (Di nv N) (List.range k) := List.take_of_length_le (by rw [List.drop_zero,aI (Di nv N) (e := 2)]; simp)
 have := nW (m := m) (pn := pn) (N := N) (Nat.le_refl (k + 1)) h
 rw [e]
 rw [List.range_succ,← bS,kS] at this ⊢
 exact this
def JX (s : List (List Bool) × List Bool) : List AV := [sl fW s.1,sl cB s.2]
instance : FlT JX 2:=⟨fun _ => rfl⟩
instance : FE JX (fun s => [sl fW s.1,sl cB s.2]):=⟨fun _ => rfl⟩
theorem HY {D:List Nat}{hs:List (Nat × Option (List AV))}{R:List (List Bool)}{nv N M n:Nat}(hF:FamR R R hs hs) (hD:∀ k,k < nv + 1 → n * (nv + 1) + k + aY ∈ D) (hlo:R.length = M * (nv + 1)) (hn:n < M) (hro:∀ q,q < R.length → R[q]!.length = N) :
  LdL D (aQ hs) (Di nv N n) [sl fW (iV nv R n),sl cB (jI nv R n)] := by
 have h1 : n * (nv + 1) + nv < M * (nv + 1) := fH hn (by omega)
 have h2 : (iV nv R n).length = nv := o6 hlo hn
 have h3 : (jI nv R n).length = N := hro _ (by omega)
 have e1 : sl fW (iV nv R n) = .imm nv (flat fW ((R.drop (n * (nv + 1))).take nv)) := by unfold sl;rw [h2]; rfl
 have e2 : sl cB (jI nv R n) = .imm N (flat cB (jI nv R n)) := by unfold sl;rw [h3]
 rw [e1,e2]
 exact .cons (.imm (LdL.rows hF (fun k hk => hD k (by omega)) (by omega) (fun k hk => hro _ (by omega)))) (.cons (.own (hD nv (by omega)) (hF.get (by omega)) (.pur (inferInstance : Pur (flat cB _)).pf)) .nil)
def GK (b : Nat) : List Nat := [b + 0 + aY,b + 1 + aY,b + 2 + aY,b + 3 + aY,b + 4 + aY,b + 5 + aY,b + 6 + aY]
theorem wN {b k:Nat}(h:k < 7):b + k + aY ∈ GK b:=by
 unfold GK
 match k,h with
 | 0,_ => simp
 | 1,_ => simp
 | 2,_ => simp
 | 3,_ => simp
 | 4,_ => simp
 | 5,_ => simp
 | 6,_ => simp
theorem qM {nv N n k:Nat}{R:List (List Bool)}(hlo:R.length = N * (nv + 1)) (hn:n < N) (hk:k < nv + 1):((R.drop (n * (nv + 1))).take (nv + 1))[k]! = R[n * (nv + 1) + k]!:=by
 have h1 := fH hn hk
 have h2 : n * (nv + 1) + nv < N * (nv + 1) := fH hn (by omega)
 rw [bG _ _ (by rw [List.length_take,List.length_drop]; omega),bG _ _ (by omega),List.getElem_take,List.getElem_drop]
theorem jC {nv N n:Nat}{R:List (List Bool)}(hlo:R.length = N * (nv + 1)) (hn:n < N):((R.drop (n * (nv + 1))).take (nv + 1)).length = nv + 1:=by
 have h2 : n * (nv + 1) + nv < N * (nv + 1) := fH hn (by omega)
 rw [List.length_take,List.length_drop]; omega
theorem CQ (ts:List Int) (pts:List Pnt) (w:WG ts pts) (i:Nat) (hi:i < pts.length) (R:List (List Bool)) (h:FSd ts pts R) :
  Jy Tryz.prog 145 [sl cI ts,sl b9 pts,iv (i : Int),Jd 0 ts.length pts.length] ((R.drop (i * (ts.length + 1))).take (ts.length + 1)) (.agg [sl fW (nM ts pts i (iV ts.length R i)),sl cB (nN ts pts i (jI ts.length R i))]) [] := by
 have h1 := CW ts pts w i hi ((R.drop (i * (ts.length + 1))).take (ts.length + 1)) (jC h.lo hi) (fun k hk => by rw [qM h.lo hi hk]; exact h.ro _ (by rw [h.lo]; exact fH hi hk))
 rw [qM h.lo hi (by omega),List.take_take,show min ts.length (ts.length + 1) = ts.length from by omega] at h1
 exact h1
theorem A4 {ts:List Int}{pts:List Pnt}(w:WG ts pts){R:List (List Bool)}(h:FSd ts pts R){i v:Nat}(hi:i < pts.length) (hv:v < ts.length):(nM ts pts i (iV ts.length R i))[v]!.length = pts.length:=by
 rw [jO _ _ _ _ _ hv]
 split
 ·exact gZ _ _ _ _
 ·split
  ·simp
  ·rw [fR h.lo hi hv]; exact h.ro _ (by rw [h.lo]; exact fH hi (by omega))
theorem pM {b:List Bool}{R:List (List Bool)}{k m:Nat}{x0 x1:Operand}(ha0:ev (lk tsl) x0 = some (.own (k + aY) 0 m 1)) (ha1:ev (lk tsl) x1 = some (sl cB b))
  (hF : FamR R R hsl hsl) (hk : k < R.length) (hm : m = R[k]!.length) (hab : b.length ≤ R[k]!.length) (hl : R[k]!.length ≤ 1048576) (hM : Nat.ble (nidl + 0) aY = true) (hN : Nat.blt d N = true) {md' : Md} [hmd : MdA md (jH [x0,x1] ++ [.inr (k + aY)]) [.inr (k + aY),.inl d] md']
  (kk : RW Tryz.prog N all Q md' rest ⟨(d,.tup []) :: tsl,(k + aY,some (flat cB (fL R[k]! b))) :: hsl,nidl + 0,z0⟩) : RW Tryz.prog N all Q md (⟨some d,.call ⟨.value (.func 147),#[x0,x1],tys⟩,ty,pos,af,none⟩ :: rest) ⟨tsl,hsl,nidl,z0⟩ :=
 xB (a := R[k]!) (b := b) (i0 := k + aY) ha0 ha1 (hF.get hk) (Bm R[k]! b m hm hab hl) hM hN (md' := md') (hmd := hmd) kk
theorem DJ (p:Prg) (Af Ap:List Nat) (hs:aJ p.body ≤ 1048576) (w:WG p.types (aE p)) (hAf:oM p.types (aE p) Af) (hAp:oH p.types (aE p) Ap):PC Tryz.prog 106 [bW p] (fun r => r = sl JX ((List.range (aE p).length).map (j3 p.types.length (aE p).length Af Ap))):=by
 have hpl := w.pl
 have hp0 := w.p0
 have htl := w.tl
 refine aD Tryz.func106 Tryz.ntmps106 ?_
 repeat' (first|(apply aH;(apply aA (k := 27);rfl;exact jJ p hs;exact Pur.pf;rfl))|refine aB ?_|fail)
 refine dR (σ := Nat) (fun k => List.replicate ((p.types.length + 1) * k) (List.replicate (aE p).length false)) [1,3] [0] (fun k => [(5,iv (k : Int)),(4,.own 1 0 k 2)]) (fun k => [(1,some (flat (Di p.types.length (aE p).length) (List.range k)))]) (fun k => k ≤ (aE p).length) (fun k => (aE p).length - k) (0) (Nat.zero_le _) ?_
 intro k hk
 try dsimp only
 repeat' (first|(apply aH;first|(with_reducible apply dX (d := 27))|(with_reducible apply dX (d := 6)))|refine aB ?_|(refine aV ?_ ?_ <;> intro hc hq <;> try (exfalso;omega))|fail)
 ·have hrep : List.replicate ((p.types.length + 1) * k) (List.replicate (aE p).length false) ++ List.replicate (p.types.length + 1) (List.replicate (aE p).length false) = List.replicate ((p.types.length + 1) * (k + 1)) (List.replicate (aE p).length false) := by
   rw [List.replicate_append_replicate,Nat.mul_succ]
  refine iK ?_
  have hst := CJ p.types.length (aE p).length htl hpl
  apply FZ (R := List.replicate ((p.types.length + 1) * k) (List.replicate (aE p).length false)) (avs := [iv (p.types.length : Int),iv ((aE p).length : Int)]) (rr' := Jd (k * (p.types.length + 1)) p.types.length (aE p).length) (h := hst)
  case ha => rfl
  case hp => rfl
  case hF => (repeat' (first|exact FamR.here|(apply FamR.cons;focus rfl)))
  case hz => rfl
  case hM => rfl
  case hN => rfl
  case hr =>
   refine .agg (.cons (.imm (rn_rows fun j hj => ?_)) (.cons (.own ?_) .nil))
   ·rw [if_pos (by rw [List.length_replicate]; omega)]; congr 1;rw [List.length_replicate,Nat.mul_comm]; omega
   ·rw [if_pos (by rw [List.length_replicate]; omega)]; congr 1;rw [List.length_replicate,Nat.mul_comm]; omega
  rw [hrep]
  repeat' (first|(apply aH;(apply dU;rfl;rfl;rfl;rfl;rfl;(case hl => (simp [aI]; done));(rfl);omega;omega;(rfl);rfl;rfl))|refine aB ?_|fail)
  (apply bT (k + 1);focus (refine Le.renF0 [(0,0),(1,3)] (R := ?qA1) (hF := ?qF1) (hz := ?qz1) (hm := ?qm1) (hn := ?qn1) (h1 := ?q11) (h2 := ?q21);(case qF1 => (repeat' (first|exact FamR.here|(apply FamR.cons;focus rfl))));(case qz1 => (rfl));(case qm1 => rfl);(case qn1 => decide);all_goals (repeat' (first|exact trivial|refine And.intro ⟨_,rfl,?_⟩ ?_|refine And.intro ⟨_,_,rfl,rfl,?_⟩ ?_|exact RnL.purI inferInstance|exact RnV.purI inferInstance|exact RnV.own rfl|exact RnV.optr rfl|exact EE (by show aY + (List.replicate ((p.types.length + 1) * (k + 1)) (List.replicate (aE p).length false)).length = _; rw [List.length_replicate,Nat.mul_comm])))))
  ·show k + 1 ≤ (aE p).length;omega
  ·show (aE p).length - (k + 1) < (aE p).length - k;omega
 ·have hkN : k = (aE p).length := by omega
  subst hkN
  refine iK (gF ?_ (Le.frzD (d := 4) (i := 1) rfl rfl))
  rw [Nat.mul_comm]
  repeat' (first|refine aB ?_|fail)
  refine dR (σ := List (List Bool) × Bool) (fun s => s.1) [1,3,4] [0] (fun s => [(6,bv s.2)]) (fun s => []) (fun s => FH p.types (aE p) s.1 s.2) (fun s => Kc p.types (aE p) s.1 s.2) (List.replicate ((aE p).length * (p.types.length + 1)) (List.replicate (aE p).length false),true) (FH.init _ _) ?_
  rintro ⟨R,c⟩ hFH
  try dsimp only at hFH
  try dsimp only
  have hRl := hFH.d.lo
  have hRr := hFH.d.ro
  cases c with
  | false =>
   repeat' (first|refine aB ?_|fail)
   have hfin := hFH.final w hAf hAp
   refine bK (Le.frzAll (d := 2) (D := (List.range R.length).map fun k => k + aY) rfl (.imm (LdL.flt fun n hn => HY (R := R) (M := (aE p).length) (by (repeat' (first|exact FamR.here|(apply FamR.cons;focus rfl)))) (fun k hk => List.mem_map.2 ⟨n * (p.types.length + 1) + k,by rw [List.mem_range,hRl]; exact fH (List.mem_range.1 hn) hk,rfl⟩) hRl (List.mem_range.1 hn) hRr))) ?_
   refine aP rfl ⟨?_,(by (exact bD _ _))⟩
   simp only [aR]
   have e1 : (List.range (aE p).length).map (fun n => (iV p.types.length R n, jI p.types.length R n)) = (List.range (aE p).length).map (j3 p.types.length (aE p).length Af Ap) := List.map_congr_left fun n hn => by
    have := hfin n (List.mem_range.1 hn)
    rw [this.1,this.2]
   have e2 : flat (fun n => [sl fW (iV p.types.length R n), sl cB (jI p.types.length R n)]) (List.range (aE p).length) = flat JX ((List.range (aE p).length).map (j3 p.types.length (aE p).length Af Ap)) := by
    rw [← e1,flat,flat,List.flatMap_map]; rfl
   rw [e2]
   simp only [sl,List.length_map,List.length_range]
  | true =>
   have hst := hFH.start
   repeat' (first|refine aB ?_|fail)
   refine dR (σ := Nat × List (List Bool) × Bool) (fun s => s.2.1) [1,3,4] [0] (fun s => [(6,bv s.2.2),(7,iv (s.1 : Int))]) (fun s => []) (fun s => s.1 ≤ (aE p).length ∧ FS p.types (aE p) R s.2.1 s.2.2 (DF s.1 0)) (fun s => (aE p).length - s.1) (0,R,false) ⟨Nat.zero_le _,hst⟩ ?_
   rintro ⟨j,R1,c1⟩ ⟨hj,hS1⟩
   dsimp only at hj hS1
   have hl1 := hS1.d.lo
   try dsimp only
   by_cases hjn : j < (aE p).length
   ·have hnl := w.nl j hjn
    repeat' (first|(apply aH;first|(apply wG (k := 145) (R := R1) (avs0 := [sl cI p.types,sl b9 (aE p),iv (j : Int),Jd 0 p.types.length (aE p).length]) (b := j * (p.types.length + 1)) (n1 := 0) (D := GK (j * (p.types.length + 1))) (ws := []) (h := CQ p.types (aE p) w j hjn R1 hS1.d) (rr' := .agg [sl fW (nM p.types (aE p) j (iV p.types.length R1 j)),sl cB (nN p.types (aE p) j (jI p.types.length R1 j))]);(case ha => rfl);(case hF => (repeat' (first|exact FamR.here|(apply FamR.cons;focus rfl))));(case hb => (rw [jC hl1 hjn]; have := fH (v := p.types.length) hjn (Nat.lt_succ_self _);omega));(case hR => exact fun k hk => qM hl1 hjn (by rwa [jC hl1 hjn] at hk));(case hD => exact fun k hk => wN (by rw [jC hl1 hjn] at hk;omega));(case har => exact .cons (RnV.purI inferInstance) (.cons (RnV.purI inferInstance) (.cons (RnV.purI inferInstance) (.cons (.agg (.cons (.imm (rn_rows fun k hk => (by rw [Nat.zero_add,lI (by rw [jC hl1 hjn]; omega)]))) (.cons (.own (by rw [Nat.zero_add,lI (by rw [jC hl1 hjn]; omega)])) .nil))) .nil))));(case hk => rfl);(case hr => exact RnV.purI inferInstance);(case hw => exact trivial);(case hM|hN => rfl))|(apply l8;rfl;rfl;(assumption);rfl;infer_instance;infer_instance;rfl)|(apply cO;rfl;rfl;rfl;rfl;rfl;(case hl => (simp;done));(exact (rfl:_=[_,_]))))|refine aB ?_|(refine aV ?_ ?_ <;> intro hc hq <;> try (exfalso;omega))|refine dH ?_|fail)
    refine dR (σ := Nat × List (List Bool) × Bool) (fun s => s.2.1) [1,3,4,7,8] [0,2] (fun s => [(6,bv s.2.2),(9,iv (s.1 : Int))]) (fun s => []) (fun s => s.1 ≤ (aE p)[j]!.next.length ∧ FS p.types (aE p) R s.2.1 s.2.2 (DF j s.1) ∧ (s.2.2 = false → s.2.1 = R1)) (fun s => (aE p)[j]!.next.length - s.1) (0,R1,c1) ⟨Nat.zero_le _,hS1,fun _ => rfl⟩ ?_
    rintro ⟨kk,R2,c2⟩ ⟨hk,hS2,hc2⟩
    dsimp only at hk hS2 hc2
    have hl2 := hS2.d.lo
    have hr2 := hS2.d.ro
    try dsimp only
    by_cases hkn : kk < (aE p)[j]!.next.length
    ·have hnx := w.nx j hjn _ (bU _ _ hkn)
     have hnn : ((aE p)[j]!.next[kk]!).toNat < (aE p).length := by omega
     have hix : ((aE p)[j]!.next[kk]!).toNat * (p.types.length + 1) + p.types.length < R2.length := by rw [hl2]; exact fH hnn (by omega)
     have hrix := hr2 _ hix
     have hqa := cH p.types (aE p) j (jI p.types.length R1 j)
     have hw1 := AA (nM p.types (aE p) j (iV p.types.length R1 j)) (iV p.types.length R2 ((aE p)[j]!.next[kk]!).toNat) (nN p.types (aE p) j (jI p.types.length R1 j)) (jI p.types.length R2 ((aE p)[j]!.next[kk]!).toNat) (by rw [cH]; exact hpl) (by rw [dO]; exact htl)
      (by rw [cH]; exact hr2 _ (by rw [hl2]; exact fH hnn (by omega))) (by rw [dO]; exact o6 hl2 hnn) (fun v hv => by rw [dO] at hv;rw [cH]; exact A4 w hS1.d hjn hv) (fun v hv => by rw [dO] at hv;rw [cH,fR hl2 hnn hv]; exact hr2 _ (by rw [hl2]; exact fH hnn (by omega)))
     repeat' (first|(apply aH;first|((with_reducible apply FW (k := 146) (D := GK (((aE p)[j]!.next[kk]!).toNat * (p.types.length + 1))) (h := hw1));(case ha => rfl);(case hl => exact .cons (.pur (PurV.pf)) (.cons (.agg (HY (R := R2) (M := (aE p).length) (by (repeat' (first|exact FamR.here|(apply FamR.cons;focus rfl)))) (fun k hk => wN (by omega)) hl2 hnn hr2)) .nil));(case hfr|hN => rfl))|(apply pM;rfl;rfl;(case hF => (repeat' (first|exact FamR.here|(apply FamR.cons;focus rfl))));omega;omega;omega;omega;rfl;rfl)|(with_reducible apply dX (d := 11))|(apply iJ;rfl;rfl;(assumption);rfl;infer_instance;infer_instance;rfl))|refine aB ?_|(refine aV ?_ ?_ <;> intro hc hq <;> try (exfalso;omega))|refine dH ?_|fail)
     ·refine iK ?_
      apply gF
      case k =>
       apply Le.fset (R := R2) (hk := hix)
       (repeat' (first|exact FamR.here|(apply FamR.cons;focus rfl)))
      rw [D0 hix]
      repeat' (first|refine aB ?_|fail)
      refine dR (σ := Nat) (fun v => wR R2 (((aE p)[j]!.next[kk]!).toNat * (p.types.length + 1)) p.types.length (nM p.types (aE p) j (iV p.types.length R1 j)) (nN p.types (aE p) j (jI p.types.length R1 j)) v) [1,3,4,7,8,9,10] [0,2] (fun v => [(11,iv (v : Int))]) (fun v => []) (fun v => v ≤ p.types.length) (fun v => p.types.length - v) (0) (Nat.zero_le _) ?_
      intro v hv
      try dsimp only
      have hjl := eS R2 (((aE p)[j]!.next[kk]!).toNat * (p.types.length + 1)) p.types.length (nM p.types (aE p) j (iV p.types.length R1 j)) (nN p.types (aE p) j (jI p.types.length R1 j)) v
      have hal := dO p.types (aE p) j (iV p.types.length R1 j)
      by_cases hvn : v < p.types.length
      ·have hav := A4 w hS1.d hjn hvn
       have hjr : (wR R2 (((aE p)[j]!.next[kk]!).toNat * (p.types.length + 1)) p.types.length (nM p.types (aE p) j (iV p.types.length R1 j)) (nN p.types (aE p) j (jI p.types.length R1 j)) v)[((aE p)[j]!.next[kk]!).toNat * (p.types.length + 1) + v]!.length = (aE p).length := by
        rw [e8 _ _ _ _ _ _ _ (by omega),if_neg (by omega),if_neg (by omega)]; exact hr2 _ (by omega)
       repeat' (first|(apply aH;first|(apply pM;rfl;rfl;(case hF => (repeat' (first|exact FamR.here|(apply FamR.cons;focus rfl))));omega;omega;omega;omega;rfl;rfl)|(with_reducible apply dX (d := 84))|(apply l8;rfl;rfl;(assumption);rfl;infer_instance;infer_instance;rfl)|(apply iJ;rfl;rfl;(assumption);rfl;infer_instance;infer_instance;rfl))|refine aB ?_|(refine aV ?_ ?_ <;> intro hc hq <;> try (exfalso;omega))|refine dH ?_|fail)
       refine iK ?_
       apply gF
       case k =>
        apply Le.fset (R := wR R2 (((aE p)[j]!.next[kk]!).toNat * (p.types.length + 1)) p.types.length (nM p.types (aE p) j (iV p.types.length R1 j)) (nN p.types (aE p) j (jI p.types.length R1 j)) v) (hk := (by omega))
        (repeat' (first|exact FamR.here|(apply FamR.cons;focus rfl)))
       rw [Dt hix hvn]
       repeat' (first|refine aB ?_|fail)
       (apply bT (v + 1);focus (refine Le.renF0 [(0,0),(2,2)] (R := ?qA2) (hF := ?qF2) (hz := ?qz2) (hm := ?qm2) (hn := ?qn2) (h1 := ?q12) (h2 := ?q22);(case qF2 => (repeat' (first|exact FamR.here|(apply FamR.cons;focus rfl))));(case qz2 => (simp only [eS]));(case qm2 => rfl);(case qn2 => decide);all_goals (repeat' (first|exact trivial|refine And.intro ⟨_,rfl,?_⟩ ?_|refine And.intro ⟨_,_,rfl,rfl,?_⟩ ?_|exact RnL.purI inferInstance|exact RnV.purI inferInstance|exact RnV.optr rfl|exact RnV.imm (nW (M := (aE p).length) (Nat.le_refl _) (by show aY + (wR _ _ _ _ _ _).length = _; rw [eS,hl2]))))))
       ·show v + 1 ≤ p.types.length;omega
       ·show p.types.length - (v + 1) < p.types.length - v;omega
      ·repeat' (first | refine aB ?_ | (refine aV ?_ ?_ <;> intro hc hq <;> try (exfalso; omega))|fail)
       have hvN : v = p.types.length := by omega
       subst hvN
       have hw3 : C6 (nM p.types (aE p) j (iV p.types.length R1 j)) (iV p.types.length R2 ((aE p)[j]!.next[kk]!).toNat) (nN p.types (aE p) j (jI p.types.length R1 j)) (jI p.types.length R2 ((aE p)[j]!.next[kk]!).toNat) = false := by assumption
       (apply bT (kk + 1,_,true);focus (refine Le.renF0 [(0,0),(2,2)] (R := ?qA3) (hF := ?qF3) (hz := ?qz3) (hm := ?qm3) (hn := ?qn3) (h1 := ?q13) (h2 := ?q23);(case qF3 => (repeat' (first|exact FamR.here|(apply FamR.cons;focus rfl))));(case qz3 => (rfl));(case qm3 => rfl);(case qn3 => decide);all_goals (repeat' (first|exact trivial|refine And.intro ⟨_,rfl,?_⟩ ?_|refine And.intro ⟨_,_,rfl,rfl,?_⟩ ?_|exact RnL.purI inferInstance|exact RnV.purI inferInstance|exact RnV.optr rfl|exact RnV.imm (nW (M := (aE p).length) (Nat.le_refl _) (by show aY + (wR _ _ _ _ _ _).length = _; rw [eS,hl2]))))))
       ·exact ⟨(by show kk + 1 ≤ (aE p)[j]!.next.length;omega),hS2.hit w (DF j (kk + 1)) hS1.d hjn hkn hw3,fun h => (by cases h)⟩
       ·show (aE p)[j]!.next.length - (kk + 1) < (aE p)[j]!.next.length - kk;omega
     ·(apply bT (kk + 1, R2, c2); focus (refine Le.renF0 [(0, 0), (2, 2)] (R := ?qA4) (hF := ?qF4) (hz := ?qz4) (hm := ?qm4) (hn := ?qn4) (h1 := ?q14) (h2 := ?q24); (case qF4 => (repeat' (first | exact FamR.here | (apply FamR.cons; focus rfl)))); (case qz4 => (rfl)); (case qm4 => rfl); (case qn4 => decide); all_goals (repeat' (first | exact trivial | refine And.intro ⟨_, rfl, ?_⟩ ?_ | refine And.intro ⟨_, _, rfl, rfl, ?_⟩ ?_ | exact RnL.purI inferInstance | exact RnV.purI inferInstance | exact RnV.optr rfl | exact RnV.imm (nW (M := (aE p).length) (Nat.le_refl _) (by show aY + R2.length = _; rw [hl2]))))))
      ·refine ⟨(by show kk + 1 ≤ (aE p)[j]!.next.length;omega),hS2.skip (i := j) (k := kk) hc2 (by assumption) (fun i' k' _ _ hd => by unfold DF at hd ⊢; omega),hc2⟩
      ·show (aE p)[j]!.next.length - (kk + 1) < (aE p)[j]!.next.length - kk;omega
    ·repeat' (first | refine aB ?_ | (refine aV ?_ ?_ <;> intro hc hq <;> try (exfalso; omega))|fail)
     (apply bT (j + 1,R2,c2);focus (refine Le.renF0 [(0,0)] (R := ?qA5) (hF := ?qF5) (hz := ?qz5) (hm := ?qm5) (hn := ?qn5) (h1 := ?q15) (h2 := ?q25);(case qF5 => (repeat' (first|exact FamR.here|(apply FamR.cons;focus rfl))));(case qz5 => (rfl));(case qm5 => rfl);(case qn5 => decide);all_goals (repeat' (first|exact trivial|refine And.intro ⟨_,rfl,?_⟩ ?_|refine And.intro ⟨_,_,rfl,rfl,?_⟩ ?_|exact RnL.purI inferInstance|exact RnV.purI inferInstance|exact RnV.optr rfl|exact RnV.imm (nW (M := (aE p).length) (Nat.le_refl _) (by show aY + R2.length = _; rw [hl2]))))))
     ·refine ⟨(by show j + 1 ≤ (aE p).length; omega), hS2.mono fun i' k' _ hk' hd => ?_⟩
      unfold DF at hd ⊢
      by_cases e : i' = j
      ·subst e;omega
      ·omega
     ·show (aE p).length - (j + 1) < (aE p).length - j;omega
   ·repeat' (first | refine aB ?_ | (refine aV ?_ ?_ <;> intro hc hq <;> try (exfalso; omega))|fail)
    (apply bT (R1,c1);focus (refine Le.renF0 [(0,0)] (R := ?qA6) (hF := ?qF6) (hz := ?qz6) (hm := ?qm6) (hn := ?qn6) (h1 := ?q16) (h2 := ?q26);(case qF6 => (repeat' (first|exact FamR.here|(apply FamR.cons;focus rfl))));(case qz6 => (rfl));(case qm6 => rfl);(case qn6 => decide);all_goals (repeat' (first|exact trivial|refine And.intro ⟨_,rfl,?_⟩ ?_|refine And.intro ⟨_,_,rfl,rfl,?_⟩ ?_|exact RnL.purI inferInstance|exact RnV.purI inferInstance|exact RnV.optr rfl|exact RnV.imm (nW (M := (aE p).length) (Nat.le_refl _) (by show aY + R1.length = _; rw [hl1]))))))
    ·exact (hS1.fin (by omega)).1
    ·exact (hS1.fin (by omega)).2
instance (s : List (List Bool) × List Bool) : Pur (JX s):=⟨by show ((sl fW s.1).pur && ((sl cB s.2).pur && true)) = true;rw [bD,bD]; rfl⟩
def Im (ts : List Int) (pts : List Pnt) (Aa : List Nat) (i k : Nat) : List Iss := ((List.range k).filter (BV ts pts Aa i)).map (fun (v : Nat) => ⟨i,1,v⟩)
def Ja (pts : List Pnt) (cf : List Bool) (i k : Nat) : List Iss := ((List.range k).filter (fun (l : Nat) => cf[l]!)).map (fun (l : Nat) => ⟨i,F3 pts l,l⟩)
theorem Ge {ts:List Int}{pts:List Pnt}{Aa:List Nat}{i k:Nat}(h:BV ts pts Aa i k = true):Im ts pts Aa i (k + 1) = Im ts pts Aa i k ++ [⟨i,1,k⟩]:=by
 unfold Im;rw [gQ,if_pos h,List.map_append]; rfl
theorem yJ {ts:List Int}{pts:List Pnt}{Aa:List Nat}{i k:Nat}(h:BV ts pts Aa i k = false):Im ts pts Aa i (k + 1) = Im ts pts Aa i k:=by
 unfold Im;rw [gQ,if_neg (by rw [h]; decide),List.append_nil]
theorem A9 {pts:List Pnt}{cf:List Bool}{i k:Nat}(h:cf[k]! = true):Ja pts cf i (k + 1) = Ja pts cf i k ++ [⟨i,F3 pts k,k⟩]:=by
 unfold Ja;rw [gQ,if_pos h,List.map_append]; rfl
theorem DH {pts:List Pnt}{cf:List Bool}{i k:Nat}(h:cf[k]! = false):Ja pts cf i (k + 1) = Ja pts cf i k:=by
 unfold Ja;rw [gQ,if_neg (by rw [h]; decide),List.append_nil]
theorem B3 (p:Prg) (f:Flows p.types (aE p)) (hs:aJ p.body ≤ 1048576) (w:WG p.types (aE p)) (hr:Rch (aE p)):PC Tryz.prog 135 [bW p,sl fW (dI p.types.length (aE p).length f.Al)] (fun r => r = sl jD f.iss):=by
 have hpl := w.pl
 have hp0 := w.p0
 have htl := w.tl
 have hfa := oF p true f.Aa hs w hr (by unfold pL;exact f.ga)
 have hfm := oF p false f.Am hs w hr (by unfold pL;exact f.gm)
 have hfl := DJ p f.Af f.Ap hs w f.gf f.gp
 have hra := fM p.types.length (aE p).length f.Aa
 have hrm := fM p.types.length (aE p).length f.Am
 have hrl := fM p.types.length (aE p).length f.Al
 have hfll : ((List.range (aE p).length).map (j3 p.types.length (aE p).length f.Af f.Ap)).length = (aE p).length := by simp
 refine aD Tryz.func135 Tryz.ntmps135 ?_
 repeat' (first|(apply aH;first|(apply aA (k := 27);rfl;exact jJ p hs;exact Pur.pf;rfl)|(apply aA (k := 53) (d := 20);rfl;exact hfa;exact Pur.pf;rfl)|(apply aA (k := 53) (d := 22);rfl;exact hfm;exact Pur.pf;rfl)|(apply aA (k := 106);rfl;exact hfl;exact Pur.pf;rfl))|refine aB ?_|fail)
 refine aL (σ := Nat × List Iss × Nat) [1,2,6,7,8,9] [0] (fun s => [(10,iv (s.1 : Int)),(5,.own 1 0 s.2.2 3)]) (fun s => [(1,some (flat jD s.2.1))]) (fun s => s.1 ≤ (aE p).length ∧ s.2.1 = m8 p.types (aE p) f.Aa f.Am f.Al f.Af f.Ap s.1 ∧ s.2.2 = s.2.1.length ∧ s.2.2 ≤ 67 * s.1) (fun s => (aE p).length - s.1) (0,[],0) ⟨Nat.zero_le _,rfl,rfl,Nat.le_refl _⟩ ?_
 rintro ⟨i,L,m⟩ ⟨hi,hL,hm,hmb⟩
 dsimp only at hi hL hm hmb
 try dsimp only
 by_cases hin : i < (aE p).length
 ·repeat' (first | refine aB ?_ | (refine aV ?_ ?_ <;> intro hc hq <;> try (exfalso; omega))|fail)
  refine aL (σ := Nat × List Iss × Nat) [1,2,6,7,8,9,10] [0] (fun s => [(11,iv (s.1 : Int)),(5,.own 1 0 s.2.2 3)]) (fun s => [(1,some (flat jD s.2.1))]) (fun s => s.1 ≤ p.types.length ∧ s.2.1 = L ++ Im p.types (aE p) f.Aa i s.1 ∧ s.2.2 = s.2.1.length ∧ s.2.2 ≤ 67 * i + s.1) (fun s => p.types.length - s.1) (0,L,m) ⟨Nat.zero_le _,(List.append_nil L).symm,hm,hmb⟩ ?_
  rintro ⟨v,L2,m2⟩ ⟨hv,hL2,hm2,hmb2⟩
  dsimp only at hv hL2 hm2 hmb2
  try dsimp only
  by_cases hvn : v < p.types.length
  ·have hga := k8 p.types.length (aE p).length f.Aa i v hin hvn
   have hgl : (dI p.types.length (aE p).length f.Aa)[i]!.length = p.types.length := by rw [fI _ _ _ _ hin]; simp
   repeat' (first|(apply aH;(apply aA (k := 139);rfl;(apply k7 <;> (omega));exact Pur.pf;rfl))|refine aB ?_|(refine aV ?_ ?_ <;> intro hc hq <;> try (exfalso;omega))|(refine dB ?_ ?_ <;> intro hg hq <;> try (exfalso;omega))|refine dH ?_|fail)
   ·(refine bT (v + 1, L2 ++ [⟨i, 1, v⟩], m2 + 1) (Le.renA [(0, 0), (1, 3)]) ?_ ?_)
    ·have hu : BV p.types (aE p) f.Aa i v = true := by
      unfold BV;rw [← hga,decide_eq_false (by assumption),(by assumption : (dI p.types.length (aE p).length f.Aa)[i]![v]! = false)]; rfl
     exact ⟨(by show v + 1 ≤ p.types.length;omega),(by show L2 ++ [⟨i,1,v⟩] = _; rw [hL2,List.append_assoc,← Ge hu]),(by show m2 + 1 = (L2 ++ [_]).length;rw [List.length_append,List.length_singleton,hm2]),(by show m2 + 1 ≤ 67 * i + (v + 1);omega)⟩
    ·show p.types.length - (v + 1) < p.types.length - v;omega
   ·(refine bT (v + 1, L2, m2) (Le.renA [(0, 0), (1, 1)]) ?_ ?_)
    ·have hu : BV p.types (aE p) f.Aa i v = false := by
      unfold BV;rw [← hga,(by assumption : (dI p.types.length (aE p).length f.Aa)[i]![v]! = true)]; simp
     exact ⟨(by show v + 1 ≤ p.types.length;omega),(by show L2 = _; rw [yJ hu]; exact hL2),hm2,(by show m2 ≤ 67 * i + (v + 1);omega)⟩
    ·show p.types.length - (v + 1) < p.types.length - v;omega
   ·(refine bT (v + 1, L2, m2) (Le.renA [(0, 0), (1, 1)]) ?_ ?_)
    ·have hu : BV p.types (aE p) f.Aa i v = false := by
      unfold BV;rw [decide_eq_true (by assumption)]; rfl
     exact ⟨(by show v + 1 ≤ p.types.length;omega),(by show L2 = _; rw [yJ hu]; exact hL2),hm2,(by show m2 ≤ 67 * i + (v + 1);omega)⟩
    ·show p.types.length - (v + 1) < p.types.length - v;omega
  ·have hvN : v = p.types.length := by omega
   have hset := w.set i hin
   have hy := w.y i hin
   have hfi : ((List.range (aE p).length).map (j3 p.types.length (aE p).length f.Af f.Ap))[i]! = j3 p.types.length (aE p).length f.Af f.Ap i := bH _ _ _ hin
   have hgm : (dI p.types.length (aE p).length f.Am)[i]!.length = p.types.length := by rw [fI _ _ _ _ hin]; simp
   have hgl : (dI p.types.length (aE p).length f.Al)[i]!.length = p.types.length := by rw [fI _ _ _ _ hin]; simp
   have hf2 : (j3 p.types.length (aE p).length f.Af f.Ap i).2.length = (aE p).length := by simp [j3]
   have hf1 : (j3 p.types.length (aE p).length f.Af f.Ap i).1.length = p.types.length := by simp [j3]
   have hf3 : ∀ v, v < p.types.length → (j3 p.types.length (aE p).length f.Af f.Ap i).1[v]!.length = (j3 p.types.length (aE p).length f.Af f.Ap i).2.length := fun v hv => by
    rw [hf2]; unfold j3;dsimp only;rw [bH _ _ _ hv]; simp
   have hacc := uS p.types (aE p)[i]! (dI p.types.length (aE p).length f.Am)[i]! htl hgm hset.1 hy
   have hlv := Eg p.types (aE p)[i]! ((List.range (aE p).length).map (j3 p.types.length (aE p).length f.Af f.Ap))[i]!.1 ((List.range (aE p).length).map (j3 p.types.length (aE p).length f.Af f.Ap))[i]!.2 (dI p.types.length (aE p).length f.Al)[i]! htl (by rw [hfi,hf2]; exact hpl) hgl (by rw [hfi]; exact hf1) (by rw [hfi]; exact hf3)
   have hlvl : (BS p.types (aE p)[i]! ((List.range (aE p).length).map (j3 p.types.length (aE p).length f.Af f.Ap))[i]!.1 (dI p.types.length (aE p).length f.Al)[i]! ((List.range (aE p).length).map (j3 p.types.length (aE p).length f.Af f.Ap))[i]!.2.length).length = (aE p).length := by unfold BS;rw [List.length_map,List.length_range,hfi,hf2]
   have hcn := rI (aE p) (gK p.types (aE p)[i]! (dI p.types.length (aE p).length f.Am)[i]![(aU (aE p)[i]!).toNat]!) ((List.range (aE p).length).map (j3 p.types.length (aE p).length f.Af f.Ap))[i]!.1 ((List.range (aE p).length).map (j3 p.types.length (aE p).length f.Af f.Ap))[i]!.2 (BS p.types (aE p)[i]! ((List.range (aE p).length).map (j3 p.types.length (aE p).length f.Af f.Ap))[i]!.1 (dI p.types.length (aE p).length f.Al)[i]! ((List.range (aE p).length).map (j3 p.types.length (aE p).length f.Af f.Ap))[i]!.2.length) hpl (by have := xC p.types (aE p)[i]! (dI p.types.length (aE p).length f.Am)[i]![(aU (aE p)[i]!).toNat]!; omega) (by rw [hfi]; exact hf2) hlvl
   have hcf : Jq (aE p) (gK p.types (aE p)[i]! (dI p.types.length (aE p).length f.Am)[i]![(aU (aE p)[i]!).toNat]!) ((List.range (aE p).length).map (j3 p.types.length (aE p).length f.Af f.Ap))[i]!.2 (BS p.types (aE p)[i]! ((List.range (aE p).length).map (j3 p.types.length (aE p).length f.Af f.Ap))[i]!.1 (dI p.types.length (aE p).length f.Al)[i]! ((List.range (aE p).length).map (j3 p.types.length (aE p).length f.Af f.Ap))[i]!.2.length) = F8 p.types (aE p) f.Am f.Al f.Af f.Ap i := by
    rw [hfi,hf2]; rfl
   have hcl : (F8 p.types (aE p) f.Am f.Al f.Af f.Ap i).length = (aE p).length := by unfold F8;rw [tE]
   repeat' (first|(apply aH;first|(apply aA (k := 171);rfl;exact hacc;exact Pur.pf;rfl)|(apply aA (k := 173);rfl;exact hlv;exact Pur.pf;rfl)|(apply aA (k := 172);rfl;exact hcn;exact Pur.pf;rfl)|(with_reducible apply dX (d := 14)))|refine aB ?_|(refine aV ?_ ?_ <;> intro hc hq <;> try (exfalso;omega))|refine dH ?_|fail)
   refine iK ?_
   rw [hcf]
   repeat' (first|refine aB ?_|fail)
   refine aL (σ := Nat × List Iss × Nat) [1,2,6,7,8,9,10,13] [0] (fun s => [(14,iv (s.1 : Int)),(5,.own 1 0 s.2.2 3)]) (fun s => [(1,some (flat jD s.2.1))]) (fun s => s.1 ≤ (aE p).length ∧ s.2.1 = L2 ++ Ja (aE p) (F8 p.types (aE p) f.Am f.Al f.Af f.Ap i) i s.1 ∧ s.2.2 = s.2.1.length ∧ s.2.2 ≤ 67 * i + 6 + s.1) (fun s => (aE p).length - s.1) (0,L2,m2) ⟨Nat.zero_le _,(List.append_nil L2).symm,hm2,by show m2 ≤ 67 * i + 6 + 0;omega⟩ ?_
   rintro ⟨l,L3,m3⟩ ⟨hl,hL3,hm3,hmb3⟩
   dsimp only at hl hL3 hm3 hmb3
   try dsimp only
   by_cases hln : l < (aE p).length
   ·repeat' (first | refine aB ?_ | (refine aV ?_ ?_ <;> intro hc hq <;> try (exfalso; omega))|fail)
    ·(refine bT (l + 1, L3, m3) (Le.renA [(0, 0), (1, 1)]) ?_ ?_)
     ·exact ⟨(by show l + 1 ≤ (aE p).length;omega),(by show L3 = _; rw [DH (by assumption)]; exact hL3),hm3,(by show m3 ≤ 67 * i + 6 + (l + 1);omega)⟩
     ·show (aE p).length - (l + 1) < (aE p).length - l;omega
    ·(refine bT (l + 1, L3 ++ [⟨i, 3, l⟩], m3 + 1) (Le.renA [(0, 0), (1, 3)]) ?_ ?_)
     ·have hk : F3 (aE p) l = 3 := by unfold F3; rw [if_pos (by assumption)]
      exact ⟨(by show l + 1 ≤ (aE p).length;omega),(by show L3 ++ [⟨i,3,l⟩] = _; rw [hL3,List.append_assoc,← hk,← A9 (by assumption)]),(by show m3 + 1 = (L3 ++ [_]).length;rw [List.length_append,List.length_singleton,hm3]),(by show m3 + 1 ≤ 67 * i + 6 + (l + 1);omega)⟩
     ·show (aE p).length - (l + 1) < (aE p).length - l;omega
    ·(refine bT (l + 1, L3 ++ [⟨i, 2, l⟩], m3 + 1) (Le.renA [(0, 0), (1, 3)]) ?_ ?_)
     ·have hk : F3 (aE p) l = 2 := by unfold F3; rw [if_neg (by assumption)]
      exact ⟨(by show l + 1 ≤ (aE p).length;omega),(by show L3 ++ [⟨i,2,l⟩] = _; rw [hL3,List.append_assoc,← hk,← A9 (by assumption)]),(by show m3 + 1 = (L3 ++ [_]).length;rw [List.length_append,List.length_singleton,hm3]),(by show m3 + 1 ≤ 67 * i + 6 + (l + 1);omega)⟩
     ·show (aE p).length - (l + 1) < (aE p).length - l;omega
   ·repeat' (first | refine aB ?_ | (refine aV ?_ ?_ <;> intro hc hq <;> try (exfalso; omega))|fail)
    (refine bT (i + 1,L3,m3) (Le.renA [(0,0),(1,1)]) ?_ ?_)
    ·refine ⟨(by show i + 1 ≤ (aE p).length; omega), ?_, hm3, (by show m3 ≤ 67 * (i + 1); omega)⟩
     show L3 = m8 p.types (aE p) f.Aa f.Am f.Al f.Af f.Ap (i + 1)
     rw [k4,← Ad w f hin,hL3,hL2,hL,hvN,show l = (aE p).length by omega,List.append_assoc]
     rfl
    ·show (aE p).length - (i + 1) < (aE p).length - i;omega
 ·repeat' (first | refine aB ?_ | (refine aV ?_ ?_ <;> intro hc hq <;> try (exfalso; omega))|fail)
  have hiN : i = (aE p).length := by omega
  refine bK (Le.frzD (d := 4) (i := 1) rfl rfl) ?_
  refine aP rfl ⟨?_,(by (exact bD _ _))⟩
  simp only [aR]
  rw [hm,hL,hiN]; rfl
theorem DR (p:Prg) (f:Flows p.types (aE p)) (hl:p.types.length ≤ 1048576) (hs:aJ p.body ≤ 1048576):PC Tryz.prog 88 [bW p] (fun r => r = sl jD (Dv p f)):=by
 unfold Dv
 cases hv : bZ p
 ·have hval := kL p hl (by omega)
  rw [hv] at hval
  refine aD Tryz.func88 Tryz.ntmps88 ?_
  repeat' (first|(apply aH;first|(apply aA (k := 40);rfl;exact hval;exact Pur.pf;rfl)|(apply aW (t := _);rfl;rfl;rfl;(rfl);rfl;rfl))|refine aB ?_|fail)
  exact aP rfl ⟨rfl,rfl⟩
 ·have w := WG.of_valid hv
  have hr := Rch.of p
  have hval := kL p hl (by omega)
  rw [hv] at hval
  have hlv := Fl p f.Al hs w f.gl
  have hck := B3 p f hs w hr
  refine aD Tryz.func88 Tryz.ntmps88 ?_
  repeat' (first|(apply aH;first|(apply aA (k := 40);rfl;exact hval;exact Pur.pf;rfl)|(apply aA (k := 136);rfl;exact hlv;exact Pur.pf;rfl)|(apply aA (k := 135);rfl;exact hck;exact Pur.pf;rfl))|refine aB ?_|refine dH ?_|fail)
  exact aP rfl ⟨rfl,(by (exact bD _ _))⟩
def HW (bs : List UInt8) (q : Int) : Int := ((bs[(q % (bs.length : Int)).toNat]!).toNat : Int) * 131 + ((bs[((q * 7 + 3) % (bs.length : Int)).toNat]!).toNat : Int) * 1117 + q * 29 + q / (bs.length : Int) * 53
def xI (bs : List UInt8) (p : Nat) (n : Int) : Int :=
 if n < 1 then 0 else if (bs.length : Int) = 0 then 0 else
 if (p : Int) + 1 - 1 < (bs.length : Int) then ((bs[((p : Int) + 1 - 1).toNat]!).toNat : Int) % n
 else (((HW bs ((p : Int) + 1 - 1)).toNat ^^^ (HW bs ((p : Int) + 1 - 1) / 64).toNat : Nat) : Int) % n
theorem E7 (bs:List UInt8) (p:Nat) (n:Int):0 ≤ xI bs p n ∧ (xI bs p n < n ∨ n < 1 ∧ xI bs p n = 0):=by
 unfold xI
 split
 ·omega
 ·split
  ·omega
  ·split
   ·exact ⟨Int.emod_nonneg _ (by omega),.inl (Int.emod_lt_of_pos _ (by omega))⟩
   ·exact ⟨Int.emod_nonneg _ (by omega),.inl (Int.emod_lt_of_pos _ (by omega))⟩
def st (op x y n : Int) : AL.Stmt := .mk op x y n [] []
theorem k3 (bs:List UInt8) (p:Nat):(xI bs p 3).toNat ≤ 2 := by have := E7 bs p 3;omega
theorem xZ {xs:List AL.Stmt}{m:Nat}{s:AL.Stmt}(hm:m = xs.length):((flat aF xs).drop 0).take (m * 6) ++ [iv s.op,iv s.x,iv s.y,iv s.n,sl aF s.th,sl aF s.el] = flat aF (xs ++ [s]) := iA hm (eV s).symm
theorem BJ {w:World}{bad:Nat → Prop}{ι:Pl}:∀ {cs cs':List AV},All2 (fun c c' => c' = c ∨ c' = nJ c) cs cs' → ∀ {b β:Nat},RdC w bad ι cs b β → RdC w bad ι cs' b β
 | _,_,.nil,_,_,h => h
 | _, _, .cons h1 h2, b, β, h => by
  simp only [RdC] at h ⊢
  obtain ⟨⟨x,q1,q2,q3⟩,q4⟩ := h
  refine ⟨⟨x,q1,q2,?_⟩,BJ h2 q4⟩
  rcases h1 with rfl|rfl
  ·exact q3
  ·exact jR q3
theorem Bn:∀ (l:List AV){a b:List AV},All2 (fun c c' => c' = c ∨ c' = nJ c) a b → All2 (fun c c' => c' = c ∨ c' = nJ c) (l ++ a) (l ++ b)
 | [],_,_,h => h
 | _ :: l,_,_,h => .cons (.inl rfl) (Bn l h)
theorem nZ {α:Type}{p q:α → Prop}{F:α → AS}{s s':AS}(L:Le s s') (h:∃ j,p j ∧ q j ∧ Le s' (F j)):∃ j,p j ∧ q j ∧ Le s (F j):=by
 obtain ⟨j,h1,h2,h3⟩ := h
 exact ⟨j,h1,h2,L.trans h3⟩
theorem Le.stmtN {ts:List (Nat × AV)}{hs:List (Nat × Option (List AV))}{n i:Nat}{z0:Lo}{xs:List AL.Stmt}(s:AL.Stmt){m:Nat}{a b:AV}(hm:m = xs.length)
  (ha : a = sl aF s.th ∨ (a = .v (.slice none 0 0) ∧ s.th = [])) (hb : b = sl aF s.el ∨ (b = .v (.slice none 0 0) ∧ s.el = []))
  (hi : aQ hs i = some (((flat aF xs).drop 0).take (m * 6) ++ List.take (1 * 6) [iv s.op,iv s.x,iv s.y,iv s.n,a,b])) : Le ⟨ts,hs,n,z0⟩ ⟨ts,(i,some (flat aF (xs ++ [s]))) :: hs,n,z0⟩ := by
 have e : flat aF (xs ++ [s]) = ((flat aF xs).drop 0).take (m * 6) ++ [iv s.op,iv s.x,iv s.y,iv s.n,sl aF s.th,sl aF s.el] := (xZ hm).symm
 have k : All2 (fun c c' => c' = c ∨ c' = nJ c) (((flat aF xs).drop 0).take (m * 6) ++ List.take (1 * 6) [iv s.op, iv s.x, iv s.y, iv s.n, a, b]) (flat aF (xs ++ [s])) := by
  rw [e]
  refine Bn _ (.cons (.inl rfl) (.cons (.inl rfl) (.cons (.inl rfl) (.cons (.inl rfl) (.cons ?_ (.cons ?_ .nil))))))
  ·rcases ha with h | ⟨h, h2⟩
   ·exact .inl h.symm
   ·refine .inr ?_; rw [h2,h]; rfl
  ·rcases hb with h | ⟨h, h2⟩
   ·exact .inl h.symm
   ·refine .inr ?_; rw [h2,h]; rfl
 refine Le.cells hi ?_ fun w bad ι b β h => BJ k h
 rw [e]; simp
theorem Br (mm:Nat) (hmm:mm ≤ 1048576) (copy_ih:∀ l,aJ l < mm → PC Tryz.prog 87 [sl aF l] (fun r => r = sl aF l)) (l:List AL.Stmt) (hs:aJ l ≤ mm):PC Tryz.prog 87 [sl aF l] (fun r => r = sl aF l):=by
 have hlen := bE l
 refine aD Tryz.func87 Tryz.ntmps87 ?_
 repeat' (first|refine aB ?_|fail)
 refine aL (σ := Nat × List AL.Stmt) [0] [] (fun k => [(4,iv (k.1 : Int)),(3,.own 0 0 k.1 6)]) (fun k => [(0,some (flat aF k.2))]) (fun k => k.1 ≤ l.length ∧ k.2 = l.take k.1) (fun k => l.length - k.1) (0,[]) ⟨by omega,rfl⟩ ?_
 rintro ⟨k,xs⟩ ⟨hk,hxs⟩
 dsimp only at hk hxs ⊢
 have hck := cZ l k
 have hct := eH l[k]!
 have hln : xs.length = k := by rw [hxs,List.length_take]; omega
 repeat' (first|(apply aH;first|(apply aW (t := _);rfl;rfl;rfl;(exact (rfl:_=some [_,_,_,_,_,_]));rfl;rfl)|(apply aA (k := 87);rfl;(apply copy_ih <;> (omega));exact Pur.pf;rfl))|refine aB ?_|(refine aV ?_ ?_ <;> intro hc hq <;> try (exfalso;omega))|fail)
 ·(refine bT (k + 1, _) (Le.renA [(0, 3)]) ?_ ?_)
  ·exact ⟨by dsimp only;omega,by dsimp only;rw [hxs,bY l k (by omega)]⟩
  ·dsimp only;omega
 ·have hel : l[k]!.el = [] := List.eq_nil_of_length_eq_zero (by omega)
  refine nZ (Le.stmtN (i := 3) l[k]! hln.symm (.inl rfl) (.inr ⟨rfl,hel⟩) rfl) ?_
  (refine bT (k + 1,_) (Le.renA [(0,3)]) ?_ ?_)
  ·exact ⟨by dsimp only;omega,by dsimp only;rw [hxs,bY l k (by omega)]⟩
  ·dsimp only;omega
 ·have hth : l[k]!.th = [] := List.eq_nil_of_length_eq_zero (by omega)
  refine nZ (Le.stmtN (i := 3) l[k]! hln.symm (.inr ⟨rfl,hth⟩) (.inl rfl) rfl) ?_
  (refine bT (k + 1,_) (Le.renA [(0,3)]) ?_ ?_)
  ·exact ⟨by dsimp only;omega,by dsimp only;rw [hxs,bY l k (by omega)]⟩
  ·dsimp only;omega
 ·have hth : l[k]!.th = [] := List.eq_nil_of_length_eq_zero (by omega)
  have hel : l[k]!.el = [] := List.eq_nil_of_length_eq_zero (by omega)
  refine nZ (Le.stmtN (i := 3) l[k]! hln.symm (.inr ⟨rfl,hth⟩) (.inr ⟨rfl,hel⟩) rfl) ?_
  (refine bT (k + 1,_) (Le.renA [(0,3)]) ?_ ?_)
  ·exact ⟨by dsimp only;omega,by dsimp only;rw [hxs,bY l k (by omega)]⟩
  ·dsimp only;omega
 ·have hke : k = l.length := by omega
  (refine bK (Le.frzD (d := 2) (i := 0) rfl rfl) ?_; refine aP rfl ?_)
  refine ⟨?_,Pur.pf⟩
  rw [hxs,hke,List.take_length]; rfl
theorem Ib (l:List AL.Stmt) (hb:aJ l ≤ 1048576):PC Tryz.prog 87 [sl aF l] (fun r => r = sl aF l):=by
 have key : ∀ m, m ≤ 1048576 → ∀ l, aJ l ≤ m → PC Tryz.prog 87 [sl aF l] (fun r => r = sl aF l) := by
  intro m
  induction m with
  | zero => intro hm l hl;exact Br 0 hm (fun l h => by omega) l hl
  | succ m ih => intro hm l hl;exact Br (m + 1) hm (fun l h => ih (by omega) l (by omega)) l hl
 exact key (aJ l) hb l (Nat.le_refl _)
theorem Gw (l:List AL.Stmt) (hs:aJ l ≤ 1048576):MC Tryz.prog 87 [sl aF l] [] 0 (fun _:Unit => True) (fun _ => .own 0 0 l.length 6) (fun _ => [(0,some (flat aF l))]):=by
 have hlen := bE l
 refine cR Tryz.func87 Tryz.ntmps87 ?_
 repeat' (first|refine aB ?_|fail)
 refine aL (σ := Nat × List AL.Stmt) [0] [] (fun k => [(4,iv (k.1 : Int)),(3,.own 0 0 k.1 6)]) (fun k => [(0,some (flat aF k.2))]) (fun k => k.1 ≤ l.length ∧ k.2 = l.take k.1) (fun k => l.length - k.1) (0,[]) ⟨by omega,rfl⟩ ?_
 rintro ⟨k,xs⟩ ⟨hk,hxs⟩
 dsimp only at hk hxs ⊢
 have hck := cZ l k
 have hct := eH l[k]!
 have hln : xs.length = k := by rw [hxs,List.length_take]; omega
 repeat' (first|(apply aH;first|(apply aW (t := _);rfl;rfl;rfl;(exact (rfl:_=some [_,_,_,_,_,_]));rfl;rfl)|(apply aA (k := 87);rfl;(apply Ib <;> (omega));exact Pur.pf;rfl))|refine aB ?_|(refine aV ?_ ?_ <;> intro hc hq <;> try (exfalso;omega))|fail)
 ·(refine bT (k + 1, _) (Le.renA [(0, 3)]) ?_ ?_)
  ·exact ⟨by dsimp only;omega,by dsimp only;rw [hxs,bY l k (by omega)]⟩
  ·dsimp only;omega
 ·have hel : l[k]!.el = [] := List.eq_nil_of_length_eq_zero (by omega)
  refine nZ (Le.stmtN (i := 3) l[k]! hln.symm (.inl rfl) (.inr ⟨rfl,hel⟩) rfl) ?_
  (refine bT (k + 1,_) (Le.renA [(0,3)]) ?_ ?_)
  ·exact ⟨by dsimp only;omega,by dsimp only;rw [hxs,bY l k (by omega)]⟩
  ·dsimp only;omega
 ·have hth : l[k]!.th = [] := List.eq_nil_of_length_eq_zero (by omega)
  refine nZ (Le.stmtN (i := 3) l[k]! hln.symm (.inr ⟨rfl,hth⟩) (.inl rfl) rfl) ?_
  (refine bT (k + 1,_) (Le.renA [(0,3)]) ?_ ?_)
  ·exact ⟨by dsimp only;omega,by dsimp only;rw [hxs,bY l k (by omega)]⟩
  ·dsimp only;omega
 ·have hth : l[k]!.th = [] := List.eq_nil_of_length_eq_zero (by omega)
  have hel : l[k]!.el = [] := List.eq_nil_of_length_eq_zero (by omega)
  refine nZ (Le.stmtN (i := 3) l[k]! hln.symm (.inr ⟨rfl,hth⟩) (.inr ⟨rfl,hel⟩) rfl) ?_
  (refine bT (k + 1,_) (Le.renA [(0,3)]) ?_ ?_)
  ·exact ⟨by dsimp only;omega,by dsimp only;rw [hxs,bY l k (by omega)]⟩
  ·dsimp only;omega
 ·have hke : k = l.length := by omega
  have hxl : xs = l := by rw [hxs,hke,List.take_length]
  subst hke
  refine aP rfl ?_
  refine eP () trivial ?_ ⟨sE ?_,trivial⟩
  ·rfl
  ·rw [hxl]
theorem Ft {l:List AL.Stmt}{x0:Operand}(ha0:ev (lk tsl) x0 = some (sl aF l)) (hmc:MC Tryz.prog 87 [sl aF l] [] 0 (fun _:Unit => True) (fun _ => .own 0 0 l.length 6) (fun _ => [(0,some (flat aF l))])) (hM:Nat.ble (nidl + 1) aY = true) (hN:Nat.blt d N = true){md':Md}[hmd:MdA md (jH [x0] ++ []) (List.map Sum.inr (List.map Prod.fst ([(nidl,some (flat aF l))]:List (Nat × Option (List AV)))) ++ [.inl d]) md'] (kk:RW Tryz.prog N all Q md' rest ⟨(d,.own nidl 0 l.length 6) :: tsl,mI hsl [(nidl,some (flat aF l))],nidl + 1,z0⟩):RW Tryz.prog N all Q md (⟨some d,.call ⟨.value (.func 87),#[x0],tys⟩,ty,pos,af,none⟩ :: rest) ⟨tsl,hsl,nidl,z0⟩:=by
 exact cF (l := [x0]) [] 1 [(nidl,some (flat aF l))] hmc (avs := [sl aF l]) (by simp only [evL,ha0]) rfl hM hN (md' := md') (hmd := hmd) kk
theorem sK {q:Prg}{x0:Operand}(ha0:ev (lk tsl) x0 = some (bW q)) (hmc:MC Tryz.prog 41 [bW q] [] 0 (fun _:Unit => True) (fun _ => .agg [.own 3 0 q.types.length 1,.own 4 0 q.body.length 6]) (fun _ => [(3,some (flat cI q.types)),(4,some (flat aF q.body))])) (hM:Nat.ble (nidl + 5) aY = true) (hN:Nat.blt d N = true){md':Md}[hmd:MdA md (jH [x0] ++ []) (List.map Sum.inr (List.map Prod.fst ([((nidl + 3),some (flat cI q.types)),((nidl + 4),some (flat aF q.body))]:List (Nat × Option (List AV)))) ++ [.inl d]) md'] (kk:RW Tryz.prog N all Q md' rest ⟨(d,.agg [.own (nidl + 3) 0 q.types.length 1,.own (nidl + 4) 0 q.body.length 6]) :: tsl,mI hsl [((nidl + 3),some (flat cI q.types)),((nidl + 4),some (flat aF q.body))],nidl + 5,z0⟩):RW Tryz.prog N all Q md (⟨some d,.call ⟨.value (.func 41),#[x0],tys⟩,ty,pos,af,none⟩ :: rest) ⟨tsl,hsl,nidl,z0⟩:=by
 exact cF (l := [x0]) [] 5 [((nidl + 3),some (flat cI q.types)),((nidl + 4),some (flat aF q.body))] hmc (avs := [bW q]) (by simp only [evL,ha0]) rfl hM hN (md' := md') (hmd := hmd) kk
theorem wX (q:Prg) (hs:aJ q.body ≤ 1048576) (ht:q.types.length ≤ 1048576):MC Tryz.prog 41 [bW q] [] 0 (fun _:Unit => True) (fun _ => .agg [.own 3 0 q.types.length 1,.own 4 0 q.body.length 6]) (fun _ => [(3,some (flat cI q.types)),(4,some (flat aF q.body))]):=by
 refine cR Tryz.func41 Tryz.ntmps41 ?_
 repeat' (first|(apply aH;(apply Ft;rfl;(apply Gw;assumption);rfl;rfl))|refine aB ?_|refine dH ?_|fail)
 refine aP rfl ?_
 refine eP () trivial ?_ ⟨sE ?_,sE ?_,trivial⟩
 ·show AV.agg [AV.own 3 0 (0 + q.types.length) 1, AV.own 4 0 q.body.length 6] = _
  rw [Nat.zero_add]
 ·rfl
 ·rfl
theorem GP {xs ys:List AL.Stmt}{k:Nat}(hk:k ≤ xs.length):((flat aF xs).drop 0).take (k * 6) ++ flat aF ys = flat aF (xs.take k ++ ys):=by
 rw [List.drop_zero,eO aF (e := 6),bS]
theorem lJ (p:Prg) (L:List Iss) (hC:PC Tryz.prog 93 [bW p] (fun r => r = sl jD L)):PC Tryz.prog 47 [bW p] (fun r => r = .tup [CP (Hb L).1,bv (Hb L).2]):=by
 refine aD Tryz.func47 Tryz.ntmps47 ?_
 repeat' (first|(apply aH;(apply aA (k := 93);rfl;exact hC;exact Pur.pf;rfl))|refine aB ?_|(refine aV ?_ ?_ <;> intro hc hq <;> try (exfalso;omega))|fail)
 ·cases L with
  | cons a b => simp only [List.length_cons] at hq;omega
  | nil => exact aP (l := [.agg [iv 0,iv 0,iv 0],bv false]) rfl ⟨rfl,rfl⟩
 ·cases L with
  | nil => simp at hq
  | cons a b => exact aP (l := [.agg [iv a.point,iv a.kind,iv a.with_],bv true]) rfl ⟨rfl,rfl⟩
theorem r9 (p:Prg) (L:List Iss) (hC:PC Tryz.prog 88 [bW p] (fun r => r = sl jD L)):PC Tryz.prog 42 [bW p] (fun r => r = .tup [CP (Hb L).1,bv (Hb L).2]):=by
 refine aD Tryz.func42 Tryz.ntmps42 ?_
 repeat' (first|(apply aH;(apply aA (k := 88);rfl;exact hC;exact Pur.pf;rfl))|refine aB ?_|(refine aV ?_ ?_ <;> intro hc hq <;> try (exfalso;omega))|fail)
 ·cases L with
  | cons a b => simp only [List.length_cons] at hq;omega
  | nil => exact aP (l := [.agg [iv 0,iv 0,iv 0],bv false]) rfl ⟨rfl,rfl⟩
 ·cases L with
  | nil => simp at hq
  | cons a b => exact aP (l := [.agg [iv a.point,iv a.kind,iv a.with_],bv true]) rfl ⟨rfl,rfl⟩
theorem wA (xs:List Int) (hl:xs.length ≤ 1048576):PC Tryz.prog 91 [sl cI xs] (fun r => r = sl cI xs):=by
 refine aD Tryz.func91 Tryz.ntmps91 ?_
 repeat' (first|(apply aH;(apply vN;rfl;rfl;(intro b hb)))|refine aB ?_|(refine aV ?_ ?_ <;> intro hc hq <;> try (exfalso;omega))|fail)
 ·have h0 : xs = [] := List.eq_nil_of_length_eq_zero (hb (by assumption))
  subst h0
  (refine bK (Le.nilImm (d := 2) rfl) ?_; refine aP rfl ?_)
  exact ⟨rfl,rfl⟩
 ·(refine bK (Le.frzD (d := 2) (i := 1) rfl rfl) ?_; refine aP rfl ?_)
  refine ⟨?_,(by (exact bD _ _))⟩
  simp only [aR,sl,Nat.zero_add]
theorem Dq (mm:Nat) (hmm:mm ≤ 1048576) (own_ih:∀ l,aJ l < mm → PC Tryz.prog 92 [sl aF l] (fun r => r = sl aF l)) (l:List AL.Stmt) (hs:aJ l ≤ mm):PC Tryz.prog 92 [sl aF l] (fun r => r = sl aF l):=by
 have hlen := bE l
 refine aD Tryz.func92 Tryz.ntmps92 ?_
 repeat' (first|(apply aH;(apply cP (d := 3) (e := 6);rfl;rfl))|refine aB ?_|fail)
 refine aL (σ := Nat × List AL.Stmt) [6,7] [] (fun k => [(8,iv (k.1 : Int)),(3,.own 0 0 k.1 6)]) (fun k => [(0,some (flat aF k.2))]) (fun k => k.1 ≤ l.length ∧ k.2 = l.take k.1) (fun k => l.length - k.1) (0,[]) ⟨by omega,rfl⟩ ?_
 rintro ⟨k,xs⟩ ⟨hk,hxs⟩
 dsimp only at hk hxs ⊢
 have hck := cZ l k
 have hct := eH l[k]!
 have hln : xs.length = k := by rw [hxs,List.length_take]; omega
 repeat' (first|(apply aH;first|(apply aW (t := _);rfl;rfl;rfl;(exact (rfl:_=some [_,_,_,_,_,_]));rfl;rfl)|(apply aA (k := 92);rfl;(apply own_ih <;> (omega));exact Pur.pf;rfl))|refine aB ?_|(refine aV ?_ ?_ <;> intro hc hq <;> try (exfalso;omega))|refine dH ?_|fail)
 ·(refine bT (k + 1, _) (Le.renA [(0, 3)]) ?_ ?_)
  ·exact ⟨by dsimp only;omega,by dsimp only;rw [hxs,bY l k (by omega)]⟩
  ·dsimp only;omega
 ·have hke : k = l.length := by omega
  (refine bK (Le.frzD (d := 2) (i := 0) rfl rfl) ?_; refine aP rfl ?_)
  refine ⟨?_,Pur.pf⟩
  rw [hxs,hke,List.take_length]; rfl
theorem Fa (l:List AL.Stmt) (hb:aJ l ≤ 1048576):PC Tryz.prog 92 [sl aF l] (fun r => r = sl aF l):=by
 have key : ∀ m, m ≤ 1048576 → ∀ l, aJ l ≤ m → PC Tryz.prog 92 [sl aF l] (fun r => r = sl aF l) := by
  intro m
  induction m with
  | zero => intro hm l hl;exact Dq 0 hm (fun l h => by omega) l hl
  | succ m ih => intro hm l hl;exact Dq (m + 1) hm (fun l h => ih (by omega) l (by omega)) l hl
 exact key (aJ l) hb l (Nat.le_refl _)
theorem I0 (l:List AL.Stmt) (hs:aJ l ≤ 1048576):MC Tryz.prog 92 [sl aF l] [] 0 (fun _:Unit => True) (fun _ => .own 0 0 l.length 6) (fun _ => [(0,some (flat aF l))]):=by
 have hlen := bE l
 refine cR Tryz.func92 Tryz.ntmps92 ?_
 repeat' (first|(apply aH;(apply cP (d := 3) (e := 6);rfl;rfl))|refine aB ?_|fail)
 refine aL (σ := Nat × List AL.Stmt) [6,7] [] (fun k => [(8,iv (k.1 : Int)),(3,.own 0 0 k.1 6)]) (fun k => [(0,some (flat aF k.2))]) (fun k => k.1 ≤ l.length ∧ k.2 = l.take k.1) (fun k => l.length - k.1) (0,[]) ⟨by omega,rfl⟩ ?_
 rintro ⟨k,xs⟩ ⟨hk,hxs⟩
 dsimp only at hk hxs ⊢
 have hck := cZ l k
 have hct := eH l[k]!
 have hln : xs.length = k := by rw [hxs,List.length_take]; omega
 have o1 := Fa l[k]!.th
 have o2 := Fa l[k]!.el
 repeat' (first|(apply aH;first|(apply aA (k := 92);rfl;exact (o1 (by omega));exact Pur.pf;rfl)|(apply aA (k := 92);rfl;exact (o2 (by omega));exact Pur.pf;rfl)|(apply aW (t := _);rfl;rfl;rfl;(exact (rfl:_=some [_,_,_,_,_,_]));rfl;rfl))|refine aB ?_|(refine aV ?_ ?_ <;> intro hc hq <;> try (exfalso;omega))|refine dH ?_|fail)
 ·(refine bT (k + 1, _) (Le.renA [(0, 3)]) ?_ ?_)
  ·exact ⟨by dsimp only;omega,by dsimp only;rw [hxs,bY l k (by omega)]⟩
  ·dsimp only;omega
 ·have hke : k = l.length := by omega
  have hxl : xs = l := by rw [hxs,hke,List.take_length]
  subst hke
  (refine aP rfl ?_; refine eP () trivial ?_ ⟨sE ?_,trivial⟩)
  ·rfl
  ·rw [hxl]
theorem Ea (q:Prg) (hs:aJ q.body ≤ 1048576) (ht:q.types.length ≤ 1048576):PC Tryz.prog 46 [bW q] (fun r => r = bW q):=by
 have h1 := wA q.types ht
 have h2 := Fa q.body hs
 refine aD Tryz.func46 Tryz.ntmps46 ?_
 repeat' (first|(apply aH;first|(apply aA (k := 91);rfl;exact h1;exact Pur.pf;rfl)|(apply aA (k := 92);rfl;exact h2;exact Pur.pf;rfl))|refine aB ?_|refine dH ?_|fail)
 exact aP (l := [bW q]) rfl ⟨rfl,Pur.pf⟩
theorem GQ {l:List AL.Stmt}{x0:Operand}(ha0:ev (lk tsl) x0 = some (sl aF l)) (hmc:MC Tryz.prog 92 [sl aF l] [] 0 (fun _:Unit => True) (fun _ => .own 0 0 l.length 6) (fun _ => [(0,some (flat aF l))])) (hM:Nat.ble (nidl + 1) aY = true) (hN:Nat.blt d N = true){md':Md}[hmd:MdA md (jH [x0] ++ []) (List.map Sum.inr (List.map Prod.fst ([(nidl,some (flat aF l))]:List (Nat × Option (List AV)))) ++ [.inl d]) md'] (kk:RW Tryz.prog N all Q md' rest ⟨(d,.own nidl 0 l.length 6) :: tsl,mI hsl [(nidl,some (flat aF l))],nidl + 1,z0⟩):RW Tryz.prog N all Q md (⟨some d,.call ⟨.value (.func 92),#[x0],tys⟩,ty,pos,af,none⟩ :: rest) ⟨tsl,hsl,nidl,z0⟩:=by
 exact cF (l := [x0]) [] 1 [(nidl,some (flat aF l))] hmc (avs := [sl aF l]) (by simp only [evL,ha0]) rfl hM hN (md' := md') (hmd := hmd) kk
theorem Hj {q:Prg}{x0:Operand}(ha0:ev (lk tsl) x0 = some (bW q)) (hmc:MC Tryz.prog 46 [bW q] [] 0 (fun _:Unit => True) (fun _ => .agg [sl cI q.types,.own 2 0 q.body.length 6]) (fun _ => [(2,some (flat aF q.body))])) (hM:Nat.ble (nidl + 3) aY = true) (hN:Nat.blt d N = true){md':Md}[hmd:MdA md (jH [x0] ++ []) (List.map Sum.inr (List.map Prod.fst ([((nidl + 2),some (flat aF q.body))]:List (Nat × Option (List AV)))) ++ [.inl d]) md'] (kk:RW Tryz.prog N all Q md' rest ⟨(d,.agg [sl cI q.types,.own (nidl + 2) 0 q.body.length 6]) :: tsl,mI hsl [((nidl + 2),some (flat aF q.body))],nidl + 3,z0⟩):RW Tryz.prog N all Q md (⟨some d,.call ⟨.value (.func 46),#[x0],tys⟩,ty,pos,af,none⟩ :: rest) ⟨tsl,hsl,nidl,z0⟩:=by
 exact cF (l := [x0]) [] 3 [((nidl + 2),some (flat aF q.body))] hmc (avs := [bW q]) (by simp only [evL,ha0]) rfl hM hN (md' := md') (hmd := hmd) kk
theorem IW (q:Prg) (hs:aJ q.body ≤ 1048576) (ht:q.types.length ≤ 1048576):MC Tryz.prog 46 [bW q] [] 0 (fun _:Unit => True) (fun _ => .agg [sl cI q.types,.own 2 0 q.body.length 6]) (fun _ => [(2,some (flat aF q.body))]):=by
 have h1 := wA q.types ht
 refine cR Tryz.func46 Tryz.ntmps46 ?_
 repeat' (first|(apply aH;first|(apply aA (k := 91);rfl;exact h1;exact Pur.pf;rfl)|(apply GQ;rfl;(apply I0;assumption);rfl;rfl))|refine aB ?_|refine dH ?_|fail)
 (refine aP rfl ?_; refine eP () trivial ?_ ⟨sE ?_,trivial⟩)
 ·rfl
 ·rfl
theorem o7 {xs:List Int}{m k:Nat}{x0 x1 x2:Operand}{i0:Nat}(ha0:ev (lk tsl) x0 = some (.own i0 0 m 1)) (ha1:ev (lk tsl) x1 = some (iv (k:Int))) (ha2:ev (lk tsl) x2 = some (iv ((k:Int) + 1))) (hH0:aQ hsl i0 = some (flat cI xs)) (hmc:MC Tryz.prog 49 [.own 0 0 m 1,iv (k:Int),iv ((k:Int) + 1)] [(0,some (flat cI xs))] 1 (fun _:Unit => True) (fun _ => .own 0 0 (m - 1) 1) (fun _ => [(0,some (flat cI (bI k xs)))])) (hM:Nat.ble (nidl + 0) aY = true) (hN:Nat.blt d N = true){md':Md}[hmd:MdA md (jH [x0,x1,x2] ++ [.inr i0]) (List.map Sum.inr (List.map Prod.fst ([(i0,some (flat cI (bI k xs)))]:List (Nat × Option (List AV)))) ++ [.inl d]) md'] (kk:RW Tryz.prog N all Q md' rest ⟨(d,.own i0 0 (m - 1) 1) :: tsl,mI hsl [(i0,some (flat cI (bI k xs)))],nidl + 0,z0⟩):RW Tryz.prog N all Q md (⟨some d,.call ⟨.value (.func 49),#[x0,x1,x2],tys⟩,ty,pos,af,none⟩ :: rest) ⟨tsl,hsl,nidl,z0⟩:=by
 exact cF (l := [x0,x1,x2]) [i0] 1 [(i0,some (flat cI (bI k xs)))] hmc (avs := [.own i0 0 m 1,iv (k : Int),iv ((k : Int) + 1)]) (by simp only [evL,ha0,ha1,ha2]) rfl hM hN (md' := md') (hmd := hmd) kk
theorem uD (xs:List Int) (m k:Nat) (hm:m = xs.length) (hk:k < m) (hl:m ≤ 1048576):MC Tryz.prog 49 [.own 0 0 m 1,iv (k:Int),iv ((k:Int) + 1)] [(0,some (flat cI xs))] 1 (fun _:Unit => True) (fun _ => .own 0 0 (m - 1) 1) (fun _ => [(0,some (flat cI (bI k xs)))]):=by
 subst hm
 refine cR Tryz.func49 Tryz.ntmps49 ?_
 repeat' (first|(apply aH;first|(apply nY (l := k) (h := k + 1) (k := xs.length);rfl;exact cJ rfl (by omega);exact cJ rfl (by omega);exact cJ rfl (by omega);omega;rfl)|(apply nO (d := 22) (h := k);rfl;exact cJ rfl (by omega);omega;omega;rfl)|(apply fS (d := 25) (l := k + 1) (h := xs.length);rfl;rfl;exact cJ rfl (by omega);rfl;exact if_pos (by omega);rfl)|(apply j6 (d := 26);rfl;rfl;rfl;exact mX rfl rfl;omega;(rw [aI cI (e := 1),aI cI (e := 1),List.length_drop]; omega);exact uR hk;rfl)|(apply tP;rfl;rfl)|(apply mA (d := 31) (l := xs.length - 1) (h := xs.length);rfl;exact cJ rfl (by omega);exact cJ rfl (by omega);omega;rfl)|(apply qY;rfl;rfl;omega;rfl;(rw [List.length_append,aI cI (e := 1),aI cI (e := 1),List.length_drop]; have := bR hk;omega);exact pU hk (by omega) rfl))|refine aB ?_|(refine aV ?_ ?_ <;> intro hc hq <;> try (exfalso;omega))|refine dH ?_|fail)
 refine bK (Le.noroom (d := 6) rfl) ?_
 refine bK (Le.cut (i := 0) ((xs.length - 1) * 1) rfl) ?_
 (refine aP rfl ?_; refine eP () trivial ?_ ⟨sE ?_,trivial⟩)
 ·show AV.own 0 0 (k + (xs.length - (k + 1))) 1 = _
  rw [show k + (xs.length - (k + 1)) = xs.length - 1 by omega]
 ·rw [List.take_left' (by rw [aI cI (e := 1)]; have := bR hk;omega)]
theorem GM {xs:List AL.Stmt}{m k:Nat}{x0 x1 x2:Operand}{i0:Nat}(ha0:ev (lk tsl) x0 = some (.own i0 0 m 6)) (ha1:ev (lk tsl) x1 = some (iv (k:Int))) (ha2:ev (lk tsl) x2 = some (iv ((k:Int) + 1))) (hH0:aQ hsl i0 = some (flat aF xs)) (hmc:MC Tryz.prog 95 [.own 0 0 m 6,iv (k:Int),iv ((k:Int) + 1)] [(0,some (flat aF xs))] 1 (fun _:Unit => True) (fun _ => .own 0 0 (m - 1) 6) (fun _ => [(0,some (flat aF (bI k xs)))])) (hM:Nat.ble (nidl + 0) aY = true) (hN:Nat.blt d N = true){md':Md}[hmd:MdA md (jH [x0,x1,x2] ++ [.inr i0]) (List.map Sum.inr (List.map Prod.fst ([(i0,some (flat aF (bI k xs)))]:List (Nat × Option (List AV)))) ++ [.inl d]) md'] (kk:RW Tryz.prog N all Q md' rest ⟨(d,.own i0 0 (m - 1) 6) :: tsl,mI hsl [(i0,some (flat aF (bI k xs)))],nidl + 0,z0⟩):RW Tryz.prog N all Q md (⟨some d,.call ⟨.value (.func 95),#[x0,x1,x2],tys⟩,ty,pos,af,none⟩ :: rest) ⟨tsl,hsl,nidl,z0⟩:=by
 exact cF (l := [x0,x1,x2]) [i0] 1 [(i0,some (flat aF (bI k xs)))] hmc (avs := [.own i0 0 m 6,iv (k : Int),iv ((k : Int) + 1)]) (by simp only [evL,ha0,ha1,ha2]) rfl hM hN (md' := md') (hmd := hmd) kk
theorem IN (xs:List AL.Stmt) (m k:Nat) (hm:m = xs.length) (hk:k < m) (hl:m ≤ 1048576):MC Tryz.prog 95 [.own 0 0 m 6,iv (k:Int),iv ((k:Int) + 1)] [(0,some (flat aF xs))] 1 (fun _:Unit => True) (fun _ => .own 0 0 (m - 1) 6) (fun _ => [(0,some (flat aF (bI k xs)))]):=by
 subst hm
 refine cR Tryz.func95 Tryz.ntmps95 ?_
 repeat' (first|(apply aH;first|(apply nY (l := k) (h := k + 1) (k := xs.length);rfl;exact cJ rfl (by omega);exact cJ rfl (by omega);exact cJ rfl (by omega);omega;rfl)|(apply nO (d := 22) (h := k);rfl;exact cJ rfl (by omega);omega;omega;rfl)|(apply fS (d := 25) (l := k + 1) (h := xs.length);rfl;rfl;exact cJ rfl (by omega);rfl;exact if_pos (by omega);rfl)|(apply j6 (d := 26);rfl;rfl;rfl;exact mX rfl rfl;omega;(rw [aI aF (e := 6),aI aF (e := 6),List.length_drop]; omega);exact uR hk;rfl)|(apply tP;rfl;rfl)|(apply mA (d := 31) (l := xs.length - 1) (h := xs.length);rfl;exact cJ rfl (by omega);exact cJ rfl (by omega);omega;rfl)|(apply qY;rfl;rfl;omega;rfl;(rw [List.length_append,aI aF (e := 6),aI aF (e := 6),List.length_drop]; have := bR hk;omega);exact pU hk (by omega) rfl))|refine aB ?_|(refine aV ?_ ?_ <;> intro hc hq <;> try (exfalso;omega))|refine dH ?_|fail)
 refine bK (Le.noroom (d := 6) rfl) ?_
 refine bK (Le.cut (i := 0) ((xs.length - 1) * 6) rfl) ?_
 (refine aP rfl ?_; refine eP () trivial ?_ ⟨sE ?_,trivial⟩)
 ·show AV.own 0 0 (k + (xs.length - (k + 1))) 6 = _
  rw [show k + (xs.length - (k + 1)) = xs.length - 1 by omega]
 ·rw [List.take_left' (by rw [aI aF (e := 6)]; have := bR hk;omega)]
theorem nC (q:Prg) (k:Nat) (hk:k ≤ q.body.length) (hs:aJ q.body ≤ 1048576):PC Tryz.prog 48 [bW q,iv (k:Int)] (fun r => r = iv (cD (q.body.take k):Int)):=by
 have hlen := bE q.body
 have hc : aJ (List.take ((k : Int).toNat - 0) (List.drop 0 q.body)) ≤ aJ q.body := by
  have h := eE (q.body.take k) (q.body.drop k)
  rw [List.take_append_drop] at h
  rw [List.drop_zero,Nat.sub_zero,Int.toNat_natCast]; omega
 have hn := iT (List.take ((k : Int).toNat - 0) (List.drop 0 q.body))
 refine aD Tryz.func48 Tryz.ntmps48 ?_
 repeat' (first|(apply aH;(apply nG;rfl;rfl;(apply oG <;> (omega));rfl;rfl))|refine aB ?_|fail)
 refine aP rfl ⟨?_,rfl⟩
 simp only [aR,List.drop_zero,Nat.sub_zero,Int.toNat_natCast]
theorem tC (q:Prg) (k:Nat) (hk:k < q.body.length) (hs:aJ q.body ≤ 1048576) (ht:q.types.length ≤ 1048576):PC Tryz.prog 50 [bW q,iv (k:Int)] (fun r => r = bW (kD q k)):=by
 have hlen := bE q.body
 refine aD Tryz.func50 Tryz.ntmps50 ?_
 repeat' (first|(apply aH;first|(apply Hj;rfl;(apply IW <;> omega);rfl;rfl)|(apply GM;rfl;rfl;rfl;(rfl);(apply IN <;> (first|assumption|omega));rfl;rfl))|refine aB ?_|fail)
 refine bK (Le.frzC (j := 1) (i := 4) [sl cI q.types] rfl rfl (by decide)) ?_
 have e : AV.agg [sl cI q.types, .imm (q.body.length - 1) (flat aF (bI k q.body))] = bW (kD q k) := by
  have := bR hk
  unfold kD
  dsimp only [bW]
  unfold sl
  rw [show (bI k q.body).length = q.body.length - 1 by omega]
 rw [← e]
 exact aP (l := [AV.agg [sl cI q.types,.imm (q.body.length - 1) (flat aF (bI k q.body))]]) rfl ⟨rfl,by rw [e]; exact Pur.pf⟩
end Go.Proofs.YtgkalkgplcdnkaaGreat
namespace Go.Proofs.YtgkalkgplcdnkaaGreat
open Go.AL Go.ChangeShapes Go.WideShapes Go.ChangeAt Go.RowKit
theorem Kr:laidOutB Tryz.prog = true := by kernel_rfl
end Go.Proofs.YtgkalkgplcdnkaaGreat
namespace Go.Proofs.YtgkalkgplcdnkaaGreat
open Go.AL Go.RowKit
def fwdC (p : Prg) (k : Nat) : Prop := k + 1 < p.body.length ∧ p.body[k]!.op = 7 ∧ p.body[k + 1]!.op = 6 ∧ p.body[k + 1]!.y = p.body[k]!.x ∧ p.body[k + 1]!.x ≠ p.body[k]!.y
instance (p : Prg) (k : Nat) : Decidable (fwdC p k) := by unfold fwdC;infer_instance
end Go.Proofs.YtgkalkgplcdnkaaGreat
namespace Go.Proofs.YtgkalkgplcdnkaaGreat
open Go Go.AL Go.RowKit
set_option maxRecDepth 100000 in
set_option maxRecDepth 100000 in
theorem IC {H:Nat → Option (List AV)}{i m e:Nat}{cs:List AV}(h:H i = some cs) (hm:cs.length = m * e):sCells H e (nJ (.own i 0 m e)) = some (m,cs):=by
 show sCells H e (.own i 0 m e) = some (m,cs)
 simp only [sCells,h,Option.bind_some,List.drop_zero]
 rw [if_pos (by omega),List.take_of_length_le (by omega)]
end Go.Proofs.YtgkalkgplcdnkaaGreat
namespace Go.Proofs.YtgkalkgplcdnkaaGreat
open Go.AL Go.RowKit
theorem lS {c left:Int}(h:c ≤ left):Fq c left = left - c := if_pos h
theorem jF {c left:Int}(h:¬ c ≤ left):Fq c left = -1 := if_neg h
theorem Ep (l:List Int) (left:Int) (h0:0 ≤ left) (h1:left ≤ 1048576) (hl:l.length ≤ 9223372036854775807):PC Tryz.prog 24 [sl cI l,iv left] (fun r => r = iv (Fq l.length left)):=by
 refine aD Tryz.func24 Tryz.ntmps24 ?_
 repeat' (first|refine aB ?_|(refine aV ?_ ?_ <;> intro hc hq <;> try (exfalso;omega))|fail)
 all_goals (refine aP rfl ⟨?_,rfl⟩; simp only [aR]; first|rw [lS (by omega)]|rw [jF (by omega)])
theorem Cu (m:Nat) (ih:∀ l (left:Int),aJ l < m → Dr l → 0 ≤ left → left ≤ 1048576 → PC Tryz.prog 25 [sl aF l,iv left] (fun r => r = iv (Fq (aJ l) left))) (s:AL.Stmt) (left:Int) (hs:cM s ≤ m) (hln:Ch s) (h0:0 ≤ left) (h1:left ≤ 1048576) :
  PC Tryz.prog 73 [cE s,iv left] (fun r => r = iv (Fq (aJ s.th + aJ s.el : Nat) left)) := by
 have hct := eH s
 obtain ⟨l1,l2⟩ := I2 hln
 have c1 := ih s.th left (by omega) l1 h0 h1
 by_cases q1 : (aJ s.th : Int) ≤ left
 ·rw [lS q1] at c1
  have c2 := ih s.el (left - aJ s.th) (by omega) l2 (by omega) (by omega)
  by_cases q2 : (aJ s.el : Int) ≤ left - aJ s.th
  ·rw [lS q2] at c2
   rw [lS (by omega)]
   refine aD Tryz.func73 Tryz.ntmps73 ?_
   repeat' (first|(apply aH;(apply aA (k := 25);rfl;(first|exact c1|exact c2);exact Pur.pf;rfl))|refine aB ?_|(refine aV ?_ ?_ <;> intro hc hq <;> try (exfalso;omega))|fail)
   all_goals first
    | (exfalso;omega)
    | (refine aP rfl ⟨?_,rfl⟩; simp only [aR]; refine congrArg (fun z => AV.v (Value.int .i64 z)) ?_; omega)
  ·rw [jF q2] at c2
   rw [jF (by omega)]
   refine aD Tryz.func73 Tryz.ntmps73 ?_
   repeat' (first|(apply aH;(apply aA (k := 25);rfl;(first|exact c1|exact c2);exact Pur.pf;rfl))|refine aB ?_|(refine aV ?_ ?_ <;> intro hc hq <;> try (exfalso;omega))|fail)
   all_goals first
    | (exfalso;omega)
    | (refine aP rfl ⟨?_,rfl⟩; rfl)
 ·rw [jF q1] at c1
  rw [jF (by omega)]
  refine aD Tryz.func73 Tryz.ntmps73 ?_
  repeat' (first|(apply aH;(apply aA (k := 25);rfl;exact c1;exact Pur.pf;rfl))|refine aB ?_|fail)
  all_goals first
   | (exfalso;omega)
   | (refine aP rfl ⟨?_,rfl⟩; rfl)
theorem AH (m:Nat) (ih:∀ s (left:Int),cM s ≤ m → Ch s → 0 ≤ left → left ≤ 1048576 → PC Tryz.prog 73 [cE s,iv left] (fun r => r = iv (Fq (aJ s.th + aJ s.el:Nat) left))) (l:List AL.Stmt) (left:Int) (hs:aJ l ≤ m) (hln:Dr l) (h0:0 ≤ left) (h1:left ≤ 1048576) :
  PC Tryz.prog 25 [sl aF l,iv left] (fun r => r = iv (Fq (aJ l) left)) := by
 have hX := Eb l
 have hl := hln.1
 by_cases q0 : (l.length : Int) ≤ left
 ·refine aD Tryz.func25 Tryz.ntmps25 ?_
  repeat' (first|refine aB ?_|(refine aV ?_ ?_ <;> intro hc hq <;> try (exfalso;omega))|fail)
  refine aL (σ := Nat × Int) [0] [] (fun k => [(5,iv (k.1 : Int)),(1,iv k.2)]) (fun k => []) (fun k => k.1 ≤ l.length ∧ 0 ≤ k.2 ∧ k.2 + l.length + lR (l.take k.1) = left) (fun k => l.length - k.1) (0,left - l.length) ⟨by omega,by dsimp only;omega,by simp [lR]⟩ ?_
  rintro ⟨k,z⟩ ⟨hk,hz0,hz⟩
  dsimp only at hk hz0 hz ⊢
  by_cases hkl : k < l.length
  ·have hck := cZ l k hkl
   have hsx := Da hkl
   have hle := Hg l (k + 1)
   have c1 := ih l[k]! z (by omega) (Io hln hkl) hz0 (by omega)
   by_cases q1 : ((aJ l[k]!.th + aJ l[k]!.el : Nat) : Int) ≤ z
   ·rw [lS q1] at c1
    repeat' (first|(apply aH;(apply aA (k := 73);rfl;exact c1;exact Pur.pf;rfl))|refine aB ?_|(refine aV ?_ ?_ <;> intro hc hq <;> try (exfalso;omega))|fail)
    all_goals first
     | (exfalso;omega)
     | ((refine bT (k + 1, z - (aJ l[k]!.th + aJ l[k]!.el : Nat)) (Le.renA []) ?_ ?_)
        ·exact ⟨by dsimp only;omega,by dsimp only;omega,by dsimp only;rw [hsx]; omega⟩
        ·dsimp only;omega)
   ·rw [jF q1] at c1
    repeat' (first|(apply aH;(apply aA (k := 73);rfl;exact c1;exact Pur.pf;rfl))|refine aB ?_|(refine aV ?_ ?_ <;> intro hc hq <;> try (exfalso;omega))|fail)
    all_goals first
     | (exfalso;omega)
     | (refine aP rfl ⟨?_,rfl⟩; simp only [aR]; rw [jF (by omega)])
  ·have hke : k = l.length := by omega
   subst hke
   rw [List.take_length] at hz
   repeat' (first|refine aB ?_|(refine aV ?_ ?_ <;> intro hc hq <;> try (exfalso;omega))|fail)
   refine aP rfl ⟨?_,rfl⟩; simp only [aR]; rw [lS (by omega)]
   refine congrArg (fun z => AV.v (Value.int .i64 z)) ?_; omega
 ·refine aD Tryz.func25 Tryz.ntmps25 ?_
  repeat' (first|refine aB ?_|(refine aV ?_ ?_ <;> intro hc hq <;> try (exfalso;omega))|fail)
  all_goals first
   | (exfalso;omega)
   | (refine aP rfl ⟨?_,rfl⟩; simp only [aR]; rw [jF (by omega)])
theorem GV:∀ (m:Nat),(∀ s (left:Int),cM s ≤ m → Ch s → 0 ≤ left → left ≤ 1048576 → PC Tryz.prog 73 [cE s,iv left] (fun r => r = iv (Fq (aJ s.th + aJ s.el:Nat) left))) ∧
  (∀ l (left : Int),aJ l ≤ m → Dr l → 0 ≤ left → left ≤ 1048576 → PC Tryz.prog 25 [sl aF l,iv left] (fun r => r = iv (Fq (aJ l) left))) := by
 intro m
 induction m using Nat.strongRecOn with
 | ind m ih =>
  have h1 : ∀ s (left : Int), cM s ≤ m → Ch s → 0 ≤ left → left ≤ 1048576 → PC Tryz.prog 73 [cE s, iv left] (fun r => r = iv (Fq (aJ s.th + aJ s.el : Nat) left)) :=
   fun s left a1 a2 a3 a4 => Cu m (fun l left' g1 g2 g3 g4 => (ih (aJ l) g1).2 l left' (Nat.le_refl _) g2 g3 g4) s left a1 a2 a3 a4
  exact ⟨h1,fun l left g1 g2 g3 g4 => AH m h1 l left g1 g2 g3 g4⟩
theorem oL (p:Prg) (left:Int) (h0:0 ≤ left) (h1:left ≤ 1048576) (hl:p.types.length ≤ 9223372036854775807) (hln:Dr p.body):PC Tryz.prog 7 [bW p,iv left] (fun r => r = iv (Fq (p.types.length + aJ p.body:Nat) left)):=by
 have c1 := Ep p.types left h0 h1 hl
 by_cases q1 : (p.types.length : Int) ≤ left
 ·rw [lS q1] at c1
  have c2 := (GV _).2 p.body (left - p.types.length) (Nat.le_refl _) hln (by omega) (by omega)
  by_cases q2 : (aJ p.body : Int) ≤ left - p.types.length
  ·rw [lS q2] at c2
   rw [lS (by omega)]
   refine aD Tryz.func7 Tryz.ntmps7 ?_
   repeat' (first|(apply aH;first|(apply aA (k := 24);rfl;exact c1;exact Pur.pf;rfl)|(apply aA (k := 25);rfl;exact c2;exact Pur.pf;rfl))|refine aB ?_|(refine aV ?_ ?_ <;> intro hc hq <;> try (exfalso;omega))|fail)
   all_goals first
    | (exfalso;omega)
    | (refine aP rfl ⟨?_,rfl⟩; simp only [aR]; refine congrArg (fun z => AV.v (Value.int .i64 z)) ?_; omega)
  ·rw [jF q2] at c2
   rw [jF (by omega)]
   refine aD Tryz.func7 Tryz.ntmps7 ?_
   repeat' (first|(apply aH;first|(apply aA (k := 24);rfl;exact c1;exact Pur.pf;rfl)|(apply aA (k := 25);rfl;exact c2;exact Pur.pf;rfl))|refine aB ?_|(refine aV ?_ ?_ <;> intro hc hq <;> try (exfalso;omega))|fail)
   all_goals first
    | (exfalso;omega)
    | (refine aP rfl ⟨?_,rfl⟩; rfl)
 ·rw [jF q1] at c1
  rw [jF (by omega)]
  refine aD Tryz.func7 Tryz.ntmps7 ?_
  repeat' (first|(apply aH;(apply aA (k := 24);rfl;exact c1;exact Pur.pf;rfl))|refine aB ?_|fail)
  all_goals first
   | (exfalso;omega)
   | (refine aP rfl ⟨?_,rfl⟩; rfl)
theorem H9 {xs:List AL.Stmt}{k:Nat}(s:AL.Stmt) (hk:k < xs.length):fG (flat aF xs) (0 + k * 6) [iv s.op,iv s.x,iv s.y,iv s.n,sl aF s.th,sl aF s.el] = flat aF (xs.set k s) := fX hk (eV s).symm
theorem EL:∀ n:Nat,flat cN (List.replicate n 0) = flat cI (List.replicate n 0)
 | 0 => rfl
 | n + 1 => by rw [List.replicate_succ,List.replicate_succ]; show cN 0 ++ flat cN (List.replicate n 0) = cI 0 ++ flat cI (List.replicate n 0);rw [EL n]; rfl
theorem EY (l:List Int) (hl:l.length ≤ 1048576):PC Tryz.prog 32 [sl cI l] (fun r => r = sl cI l):=by
 refine aD Tryz.func32 Tryz.ntmps32 ?_
 repeat' (first|refine aB ?_|fail)
 rw [EL]
 refine aL (σ := Nat × List Int) [0,3] [] (fun k => [(4,iv (k.1 : Int))]) (fun k => [(0,some (flat cI k.2))]) (fun k => k.1 ≤ l.length ∧ k.2.length = l.length ∧ (∀ j,j < k.1 → k.2[j]! = l[j]!)) (fun k => l.length - k.1) (0,List.replicate l.length 0) ⟨by omega,by simp,by omega⟩ ?_
 rintro ⟨k,u⟩ ⟨hk,hul,hu⟩
 dsimp only at hk hul hu ⊢
 repeat' (first|refine aB ?_|(refine aV ?_ ?_ <;> intro hc hq <;> try (exfalso;omega))|fail)
 ·(refine bT (k + 1, u.set k l[k]!) (Le.renA [(0, 0)]) ?_ ?_)
  ·refine ⟨by dsimp only; omega, by dsimp only; rw [List.length_set]; exact hul, fun j hj => ?_⟩
   dsimp only at hj ⊢
   rw [aX]
   by_cases e : k = j
   ·subst e;rw [if_pos ⟨rfl,by omega⟩]
   ·rw [if_neg (fun q => e q.1)]; exact hu j (by omega)
  ·dsimp only;omega
 ·refine bK (Le.frzD (d := 2) (i := 0) rfl rfl) ?_
  have e : u = l := bJ hul fun j hj => hu j (by omega)
  subst e
  exact aP rfl ⟨rfl,(by (exact bD _ _))⟩
theorem CU (m:Nat) (ih:∀ l,aJ l < m → PC Tryz.prog 33 [sl aF l] (fun r => r = sl aF l)) (s:AL.Stmt) (hs:cM s ≤ m):PC Tryz.prog 77 [cE s] (fun r => r = cE s):=by
 have hct := eH s
 have c1 := ih s.th (by omega)
 have c2 := ih s.el (by omega)
 refine aD Tryz.func77 Tryz.ntmps77 ?_
 repeat' (first|(apply aH;(apply aA (k := 33);rfl;(first|exact c1|exact c2);exact Pur.pf;rfl))|refine aB ?_|fail)
 exact aP (l := [cE s]) rfl ⟨rfl,Pur.pf⟩
theorem zE (m:Nat) (hm:m ≤ 1048576) (ih:∀ s,cM s ≤ m → PC Tryz.prog 77 [cE s] (fun r => r = cE s)) (l:List AL.Stmt) (hs:aJ l ≤ m):PC Tryz.prog 33 [sl aF l] (fun r => r = sl aF l):=by
 have hlen := bE l
 refine aD Tryz.func33 Tryz.ntmps33 ?_
 repeat' (first|refine aB ?_|fail)
 refine JM (Le.zeroS (i := 0) (m := l.length) rfl) ?_
 refine aL (σ := Nat × List AL.Stmt) [0,3] [] (fun k => [(4,iv (k.1 : Int))]) (fun k => [(0,some (flat aF k.2))]) (fun k => k.1 ≤ l.length ∧ k.2.length = l.length ∧ (∀ j,j < k.1 → k.2[j]! = l[j]!)) (fun k => l.length - k.1) (0,List.replicate l.length J7) ⟨by omega,by simp,by omega⟩ ?_
 rintro ⟨k,u⟩ ⟨hk,hul,hu⟩
 dsimp only at hk hul hu ⊢
 by_cases hkl : k < l.length
 ·have hck := cZ l k hkl
  have c1 := ih l[k]! (by omega)
  repeat' (first|(apply aH;first|(apply aA (k := 77);rfl;exact c1;exact Pur.pf;rfl)|(apply cO;rfl;rfl;rfl;rfl;rfl;(rw [aI aF (e := 6)]; (show _ + 6 ≤ _);omega);exact H9 _ (by omega)))|refine aB ?_|(refine aV ?_ ?_ <;> intro hc hq <;> try (exfalso;omega))|fail)
  (refine bT (k + 1,u.set k l[k]!) (Le.renA [(0,0)]) ?_ ?_)
  ·refine ⟨by dsimp only; omega, by dsimp only; rw [List.length_set]; exact hul, fun j hj => ?_⟩
   dsimp only at hj ⊢
   rw [aX]
   by_cases e : k = j
   ·subst e;rw [if_pos ⟨rfl,by omega⟩]
   ·rw [if_neg (fun q => e q.1)]; exact hu j (by omega)
  ·dsimp only;omega
 ·repeat' (first | refine aB ?_ | (refine aV ?_ ?_ <;> intro hc hq <;> try (exfalso; omega))|fail)
  refine bK (Le.frzD (d := 2) (i := 0) rfl rfl) ?_
  have e : u = l := bJ hul fun j hj => hu j (by omega)
  subst e
  exact aP rfl ⟨rfl,(by (exact bD _ _))⟩
theorem Gy:∀ (m:Nat),m ≤ 1048576 → (∀ s,cM s ≤ m → PC Tryz.prog 77 [cE s] (fun r => r = cE s)) ∧ (∀ l,aJ l ≤ m → PC Tryz.prog 33 [sl aF l] (fun r => r = sl aF l)):=by
 intro m
 induction m using Nat.strongRecOn with
 | ind m ih =>
  intro hm
  have h1 : ∀ s,cM s ≤ m → PC Tryz.prog 77 [cE s] (fun r => r = cE s) := fun s a1 => CU m (fun l g1 => (ih (aJ l) g1 (by omega)).2 l (Nat.le_refl _)) s a1
  exact ⟨h1,fun l g1 => zE m hm h1 l g1⟩
theorem wC (p:Prg) (hl:p.types.length ≤ 1048576) (hs:aJ p.body ≤ 1048576):PC Tryz.prog 9 [bW p] (fun r => r = bW p):=by
 have c1 := EY p.types hl
 have c2 := (Gy _ hs).2 p.body (Nat.le_refl _)
 refine aD Tryz.func9 Tryz.ntmps9 ?_
 repeat' (first|(apply aH;first|(apply aA (k := 32);rfl;exact c1;exact Pur.pf;rfl)|(apply aA (k := 33);rfl;exact c2;exact Pur.pf;rfl))|refine aB ?_|fail)
 exact aP (l := [bW p]) rfl ⟨rfl,Pur.pf⟩
theorem yL (L:List Int) (hl:L.length ≤ 1048576):PC Tryz.prog 11 [sl cI L,sl cI L] (fun r => r = bv true):=by
 refine aD Tryz.func11 Tryz.ntmps11 ?_
 repeat' (first|refine aB ?_|(refine aV ?_ ?_ <;> intro hc hq <;> try (exfalso;omega))|fail)
 ·exact (hq trivial).elim
 refine aL (σ := Nat) [0,1] [] (fun k => [(5,iv (k : Int))]) (fun k => []) (fun k => k ≤ L.length) (fun k => L.length - k) (0) (by omega) ?_
 rintro k hk
 repeat' (first|refine aB ?_|(refine aV ?_ ?_ <;> intro hc hq <;> try (exfalso;omega))|refine dH ?_|fail)
 ·exfalso
  simp at hq
 ·(refine bT (k + 1) (Le.renA []) ?_ ?_)
  ·omega
  ·omega
 ·exact aP rfl ⟨rfl,rfl⟩
theorem Cm (m:Nat) (ih:∀ l,aJ l < m → PC Tryz.prog 38 [sl aF l,sl aF l] (fun r => r = bv true)) (s:AL.Stmt) (hs:cM s ≤ m):PC Tryz.prog 83 [cE s,cE s] (fun r => r = bv true):=by
 have hct := eH s
 have c1 := ih s.th (by omega)
 have c2 := ih s.el (by omega)
 refine aD Tryz.func83 Tryz.ntmps83 ?_
 repeat' (first|(apply aH;(apply aA (k := 38);rfl;(first|exact c1|exact c2);exact Pur.pf;rfl))|refine aB ?_|(refine aV ?_ ?_ <;> intro hc hq <;> try (exfalso;omega))|fail)
 all_goals first
  | (exfalso;exact (by assumption : ¬ True) trivial)
  | exact aP rfl ⟨rfl,rfl⟩
theorem Az (m:Nat) (hm:m ≤ 1048576) (ih:∀ s,cM s ≤ m → PC Tryz.prog 83 [cE s,cE s] (fun r => r = bv true)) (l:List AL.Stmt) (hs:aJ l ≤ m):PC Tryz.prog 38 [sl aF l,sl aF l] (fun r => r = bv true):=by
 have hlen := bE l
 refine aD Tryz.func38 Tryz.ntmps38 ?_
 repeat' (first|refine aB ?_|(refine aV ?_ ?_ <;> intro hc hq <;> try (exfalso;omega))|fail)
 ·exact (hq trivial).elim
 refine aL (σ := Nat) [0,1] [] (fun k => [(5,iv (k : Int))]) (fun k => []) (fun k => k ≤ l.length) (fun k => l.length - k) (0) (by omega) ?_
 rintro k hk
 by_cases hkl : k < l.length
 ·have hck := cZ l k hkl
  have c1 := ih l[k]! (by omega)
  repeat' (first|(apply aH;(apply aA (k := 83);rfl;exact c1;exact Pur.pf;rfl))|refine aB ?_|(refine aV ?_ ?_ <;> intro hc hq <;> try (exfalso;omega))|refine dH ?_|fail)
  all_goals first
   | (exfalso;exact (by assumption : ¬ True) trivial)
   | ((refine bT (k + 1) (Le.renA []) ?_ ?_)
      ·omega
      ·omega)
 ·repeat' (first | refine aB ?_ | (refine aV ?_ ?_ <;> intro hc hq <;> try (exfalso; omega))|fail)
  exact aP rfl ⟨rfl,rfl⟩
theorem GW:∀ (m:Nat),m ≤ 1048576 → (∀ s,cM s ≤ m → PC Tryz.prog 83 [cE s,cE s] (fun r => r = bv true)) ∧ (∀ l,aJ l ≤ m → PC Tryz.prog 38 [sl aF l,sl aF l] (fun r => r = bv true)):=by
 intro m
 induction m using Nat.strongRecOn with
 | ind m ih =>
  intro hm
  have h1 : ∀ s,cM s ≤ m → PC Tryz.prog 83 [cE s,cE s] (fun r => r = bv true) := fun s a1 => Cm m (fun l g1 => (ih (aJ l) g1 (by omega)).2 l (Nat.le_refl _)) s a1
  exact ⟨h1,fun l g1 => Az m hm h1 l g1⟩
theorem oN (p:Prg) (hl:p.types.length ≤ 1048576) (hs:aJ p.body ≤ 1048576):PC Tryz.prog 12 [bW p,bW p] (fun r => r = bv true):=by
 have c1 := yL p.types hl
 have c2 := (GW _ hs).2 p.body (Nat.le_refl _)
 refine aD Tryz.func12 Tryz.ntmps12 ?_
 repeat' (first|(apply aH;first|(apply aA (k := 11);rfl;exact c1;exact Pur.pf;rfl)|(apply aA (k := 38);rfl;exact c2;exact Pur.pf;rfl))|refine aB ?_|fail)
 all_goals first
  | (exfalso;exact (by assumption : ¬ True) trivial)
  | exact aP rfl ⟨rfl,rfl⟩
end Go.Proofs.YtgkalkgplcdnkaaGreat
namespace Go.Proofs.YtgkalkgplcdnkaaGreat
open Go.AL Go.ChangeShapes Go.WideShapes Go.ChangeAt Go.RowKit
theorem xV {w:World}{b:Nat}:∀ (cs:List AV) (l:List Value) (o:Nat),RdL w (fun _ => False) (fun _ => none) cs l → (∀ j,j < l.length → w.cell? ⟨b,o + j,none⟩ = l[j]?) → RdC w (fun _ => False) (fun _ => none) cs b o
 | [],_,_,_,_ => by simp only [RdC]
 | c :: cs, l, o, h, hc => by
  simp only [RdL] at h
  obtain ⟨x,l',rfl,h1,h2,h3⟩ := h
  simp only [RdC]
  refine ⟨⟨x,by simpa using hc 0 (by simp),h1,h2⟩,xV cs l' (o + 1) h3 fun j hj => ?_⟩
  have := hc (j + 1) (by simpa using hj)
  rw [show o + 1 + j = o + (j + 1) from by omega,this]; rfl
theorem vW {w:World}{bad:Nat → Prop}{ι:Pl}{b:Nat}:∀ (cs ds:List AV) (o:Nat),RdC w bad ι cs b o → RdC w bad ι ds b (o + cs.length) → RdC w bad ι (cs ++ ds) b o
 | [],ds,o,_,h => by simpa using h
 | c :: cs, ds, o, h, h2 => by
  simp only [List.cons_append,RdC] at h ⊢
  exact ⟨h.1,vW cs ds (o + 1) h.2 (by rw [List.length_cons] at h2;rwa [show o + 1 + cs.length = o + (cs.length + 1) from by omega])⟩
theorem RdC_stmts {w:World}{b:Nat}:∀ (l:List AL.Stmt) (o:Nat),(∀ i,i < l.length → RdC w (fun _ => False) (fun _ => none) (aF l[i]!) b (o + i * 6)) → RdC w (fun _ => False) (fun _ => none) (flat aF l) b o
 | [],_,_ => by simp only [flat,List.flatMap_nil,RdC]
 | s :: l, o, h => by
  have e : flat aF (s :: l) = aF s ++ flat aF l := by simp only [flat,List.flatMap_cons]
  rw [e]
  have h0 := h 0 (by simp)
  refine vW _ _ o (by simpa using h0) (RdC_stmts l _ fun i hi => ?_)
  have hi' := h (i + 1) (by simpa using hi)
  have e6 : (aF s).length = 6 := by rw [eV]; rfl
  rw [e6,show o + 6 + i * 6 = o + (i + 1) * 6 from by omega]
  simpa using hi'
theorem xR {w:World}{b:Nat}:∀ (zs:List Int) (o:Nat),(∀ j,j < zs.length → w.cell? ⟨b,o + j,none⟩ = some (.int .i64 zs[j]!)) → RdC w (fun _ => False) (fun _ => none) (flat cI zs) b o
 | [],_,_ => by simp only [flat,List.flatMap_nil,RdC]
 | x :: zs, o, h => by
  have h0 := h 0 (by simp)
  have e : flat cI (x :: zs) = iv x :: flat cI zs := rfl
  rw [e]
  simp only [RdC]
  refine ⟨⟨.int .i64 x,by simpa using h0,rfl,by simp only [Rd]⟩,xR zs (o + 1) fun j hj => ?_⟩
  have := h (j + 1) (by simpa using hj)
  rw [show o + 1 + j = o + (j + 1) from by omega]
  simpa using this
theorem zV:Tryz.prog.cellsOf 3 = 1 := by kernel_rfl
theorem BF:Tryz.prog.cellsOf 23 = 1 := by kernel_rfl
theorem Gh:Tryz.prog.cellsOf 22 = 1 := by kernel_rfl
theorem yA:Tryz.prog.cellsOf 100 = 6 := by kernel_rfl
theorem GF:Tryz.prog.cellsOf 25 = 2 := by kernel_rfl
theorem G7:Tryz.prog.cellsOf 44 = 3 := by kernel_rfl
theorem yP {α:Type}[Inhabited α] {P:Nat → α → Prop}(n:Nat) (h:∀ i,i < n → ∃ x,P i x):∃ l:List α,l.length = n ∧ ∀ i,i < n → P i l[i]!:=by
 induction n with
 | zero => exact ⟨[],rfl,by omega⟩
 | succ n ih =>
  obtain ⟨l,h1,h2⟩ := ih fun i hi => h i (by omega)
  obtain ⟨x,hx⟩ := h n (by omega)
  refine ⟨l ++ [x],by simp [h1],fun i hi => ?_⟩
  by_cases e : i < n
  ·rw [bG _ _ (by simp;omega),List.getElem_append_left (by omega),← bG l i (by omega)]; exact h2 i e
  ·have : i = n := by omega
   subst this
   rw [bG _ _ (by simp;omega),List.getElem_append_right (by omega)]
   simp only [h1,Nat.sub_self,List.getElem_cons_zero]; exact hx
section
variable {H : Type} {enc : TypeId × Value → H} {W : World}
theorem GO {fuel:Nat}{v:Value}{x:DataW H × List MemPlace}(hf:DataW.trod enc Tryz.prog W 0 (fun _ => true) true fuel 22 [v] = some x):∃ l:List Int,l.length ≤ 9223372036854775807 ∧ Rd W (fun _ => False) (fun _ => none) (sl cI l) v ∧ v.oneCell' = true:=by
 rcases open_ints Tryz.underlying22 Tryz.underlying3 zV hf with ⟨hcs,hx⟩ | ⟨a,len,cap,zs,hcs,_,hl,hm,hz,hx,hcell,hwz⟩
 ·simp at hcs
  subst hcs
  refine ⟨[],by decide,?_,rfl⟩
  simp only [Rd]
  exact ⟨none,0,rfl,.inl rfl⟩
 ·simp at hcs
  subst hcs
  simp only [if_true] at hz
  have hlen : (zs.take len).length = len := by simp;omega
  have hmx : maxLen = 9223372036854775807 := by decide
  refine ⟨zs.take len,by omega,?_,rfl⟩
  simp only [Rd]
  refine ⟨some a,cap,by rw [hlen],?_⟩
  by_cases h00 : len = 0
  ·exact .inl (by rw [hlen]; exact h00)
  ·obtain ⟨b, off, spot⟩ := a
   have hspot : spot = none := by simpa [Addr.add] using World.cell?_spot (hcell 0 (by omega))
   subst hspot
   refine .inr ⟨b,off,by rw [hlen]; exact hl,rfl,.inr ⟨fun h => h,xR _ _ fun j hj => ?_⟩⟩
   rw [hlen] at hj
   have hcj := hcell j (by omega)
   rw [Addr.add_lit] at hcj
   rw [hcj,bG _ _ (by rw [hlen]; exact hj),List.getElem_take]
   simp [List.getD,List.getElem?_eq_getElem (show j < zs.length by omega)]
theorem Kx {cs:List Value}(h:cs.length = 6):∃ a b c d e f,cs = [a,b,c,d,e,f]:=by
 match cs,h with
 | [a,b,c,d,e,f],_ => exact ⟨a,b,c,d,e,f,rfl⟩
theorem Ec:∀ fuel:Nat,(∀ cs x,DataW.trod enc Tryz.prog W 0 (fun _ => true) true fuel 100 cs = some x → ∃ s:AL.Stmt,Ch s ∧ cs.length = 6 ∧ RdL W (fun _ => False) (fun _ => none) (aF s) cs) ∧
  (∀ v x,DataW.trod enc Tryz.prog W 0 (fun _ => true) true fuel 23 [v] = some x → ∃ l : List AL.Stmt,Dr l ∧ Rd W (fun _ => False) (fun _ => none) (sl aF l) v ∧ v.oneCell' = true) := by
 intro fuel
 induction fuel using Nat.strongRecOn with
 | ind fuel ih =>
  constructor
  ·intro cs x h
   obtain ⟨xs,n,hn,_,hl,hlen,hf⟩ := DataW.trod_struct Tryz.underlying100 h
   rw [yA] at hl
   obtain ⟨v0,v1,v2,v3,v4,v5,rfl⟩ := Kx hl
   have f0 := hf 0 _ rfl
   have f1 := hf 1 _ rfl
   have f2 := hf 2 _ rfl
   have f3 := hf 3 _ rfl
   have f4 := hf 4 _ rfl
   have f5 := hf 5 _ rfl
   have g : ∀ i,i < 6 → ∃ y,xs[i]? = some y := fun i hi => ⟨xs[i]'(by rw [hlen]; exact hi),List.getElem?_eq_getElem (by rw [hlen]; exact hi)⟩
   obtain ⟨y0,e0⟩ := g 0 (by decide)
   obtain ⟨y1,e1⟩ := g 1 (by decide)
   obtain ⟨y2,e2⟩ := g 2 (by decide)
   obtain ⟨y3,e3⟩ := g 3 (by decide)
   obtain ⟨y4,e4⟩ := g 4 (by decide)
   obtain ⟨y5,e5⟩ := g 5 (by decide)
   rw [e0] at f0
   rw [e1] at f1
   rw [e2] at f2
   rw [e3] at f3
   rw [e4] at f4
   rw [e5] at f5
   change DataW.trod _ _ _ _ _ _ n 3 (([v0,v1,v2,v3,v4,v5].drop 0).take (Tryz.prog.cellsOf 3)) = _ at f0
   change DataW.trod _ _ _ _ _ _ n 3 (([v0,v1,v2,v3,v4,v5].drop 1).take (Tryz.prog.cellsOf 3)) = _ at f1
   change DataW.trod _ _ _ _ _ _ n 3 (([v0,v1,v2,v3,v4,v5].drop 2).take (Tryz.prog.cellsOf 3)) = _ at f2
   change DataW.trod _ _ _ _ _ _ n 3 (([v0,v1,v2,v3,v4,v5].drop 3).take (Tryz.prog.cellsOf 3)) = _ at f3
   change DataW.trod _ _ _ _ _ _ n 23 (([v0,v1,v2,v3,v4,v5].drop 4).take (Tryz.prog.cellsOf 23)) = _ at f4
   change DataW.trod _ _ _ _ _ _ n 23 (([v0,v1,v2,v3,v4,v5].drop 5).take (Tryz.prog.cellsOf 23)) = _ at f5
   rw [zV] at f0 f1 f2 f3
   rw [BF] at f4 f5
   obtain ⟨n0,q0,_,_⟩ := DataW.trod_int Tryz.underlying3 f0
   obtain ⟨n1,q1,_,_⟩ := DataW.trod_int Tryz.underlying3 f1
   obtain ⟨n2,q2,_,_⟩ := DataW.trod_int Tryz.underlying3 f2
   obtain ⟨n3,q3,_,_⟩ := DataW.trod_int Tryz.underlying3 f3
   have ih' := ih n (by omega)
   obtain ⟨l4,a4,b4,c4⟩ := ih'.2 v4 _ f4
   obtain ⟨l5,a5,b5,c5⟩ := ih'.2 v5 _ f5
   simp at q0 q1 q2 q3
   subst q0 q1 q2 q3
   refine ⟨.mk n0 n1 n2 n3 l4 l5,by simp only [Ch]; exact ⟨a4,a5⟩,rfl,?_⟩
   rw [eV]
   simp only [RdL]
   exact ⟨_,_,rfl,rfl,(by simp only [Rd]; rfl),_,_,rfl,rfl,(by simp only [Rd]; rfl),_,_,rfl,rfl,(by simp only [Rd]; rfl),_,_,rfl,rfl,(by simp only [Rd]; rfl),_,_,rfl,c4,b4,_,_,rfl,c5,b5,rfl⟩
  ·intro v x h
   rcases DataW.trod_slice Tryz.underlying23 h with ⟨hcs,_⟩ | ⟨a,len,cap,elems,rest,n,hn,hcs,_,hb,hl,hm,hlen,hel,hsp,hns⟩
   ·simp at hcs
    subst hcs
    refine ⟨[],⟨by decide,by simp only [Gc]⟩,?_,rfl⟩
    simp only [Rd]
    exact ⟨none,0,rfl,.inl rfl⟩
   ·simp at hcs
    subst hcs
    rw [yA] at hel
    have hmx : maxLen = 9223372036854775807 := by decide
    have key : ∀ i, i < len → ∃ s : AL.Stmt, Ch s ∧ ∃ cs : List Value, cs.length = 6 ∧ RdL W (fun _ => False) (fun _ => none) (aF s) cs ∧ ∀ j, j < 6 → W.cell? ((a.add (i * 6)).add j) = cs[j]? := fun i hi => by
     have h1 := hel i hi
     rw [List.getElem?_eq_getElem (by omega),Option.bind_eq_some_iff] at h1
     obtain ⟨cs,h2,h3⟩ := h1
     obtain ⟨s,s1,s2,s3⟩ := (ih n (by omega)).1 cs _ h3
     exact ⟨s,s1,cs,s2,s3,(World.cells?_some h2).2.2⟩
    obtain ⟨l,k1,k2⟩ := yP len key
    refine ⟨l,⟨by omega,Dw fun s hs => ?_⟩,?_,rfl⟩
    ·obtain ⟨i, hi, e⟩ := List.getElem_of_mem hs
     have := (k2 i (by omega)).1
     rw [bG _ _ hi,e] at this;exact this
    ·simp only [Rd]
     refine ⟨some a,cap,by rw [k1],?_⟩
     by_cases h00 : len = 0
     ·exact .inl (by rw [k1]; exact h00)
     ·obtain ⟨b, off, spot⟩ := a
      have hspot : spot = none := by
       obtain ⟨_,cs,c1,_,c3⟩ := k2 0 (by omega)
       have := c3 0 (by decide)
       rw [List.getElem?_eq_getElem (by omega)] at this
       simpa [Addr.add] using World.cell?_spot this
      subst hspot
      refine .inr ⟨b,off,by rw [k1]; exact hl,rfl,.inr ⟨fun h => h,RdC_stmts _ _ fun i hi => ?_⟩⟩
      rw [k1] at hi
      obtain ⟨_,cs,c1,c2,c3⟩ := k2 i hi
      refine xV _ cs _ c2 fun j hj => ?_
      have := c3 j (by omega)
      rw [Addr.add_lit,Addr.add_lit] at this
      exact this
theorem HF {base:Nat}{v0:Value}{d0:DataW H}{p:List MemPlace}(hval:Value.okWide Tryz.prog W .any base 25 v0) (h0:DataW.Trod enc Tryz.prog W 0 (fun _ => true) true 25 v0 d0 p) :
  ∃ q : Prg,q.types.length ≤ 9223372036854775807 ∧ Dr q.body ∧ Rd W (fun _ => False) (fun _ => none) (bW q) v0 := by
 obtain ⟨cs,rfl,hsz⟩ := okWide_struct Tryz.underlying25 hval
 obtain ⟨fuel,hf⟩ := h0
 obtain ⟨xs,n,hn,_,hl,hlen,hg⟩ := DataW.trod_struct Tryz.underlying25 hf
 have f0 := hg 0 _ rfl
 have f1 := hg 1 _ rfl
 have g : ∀ i,i < 2 → ∃ y,xs[i]? = some y := fun i hi => ⟨xs[i]'(by rw [hlen]; exact hi),List.getElem?_eq_getElem (by rw [hlen]; exact hi)⟩
 obtain ⟨y0,e0⟩ := g 0 (by decide)
 obtain ⟨y1,e1⟩ := g 1 (by decide)
 rw [e0] at f0
 rw [e1] at f1
 change DataW.trod _ _ _ _ _ _ n 22 (((Value.agg cs).cells.toList.drop 0).take (Tryz.prog.cellsOf 22)) = _ at f0
 change DataW.trod _ _ _ _ _ _ n 23 (((Value.agg cs).cells.toList.drop 1).take (Tryz.prog.cellsOf 23)) = _ at f1
 rw [Gh] at f0
 rw [BF] at f1
 have hcs : (Value.agg cs).cells.toList = cs.toList := rfl
 rw [GF] at hl
 rw [hcs] at hl f0 f1
 obtain ⟨a, b, hab⟩ : ∃ a b, cs.toList = [a, b] := by
  match h : cs.toList,hl with
  | [a,b],_ => exact ⟨a,b,rfl⟩
 rw [hab] at f0 f1
 obtain ⟨ts,t1,t2,t3⟩ := GO f0
 obtain ⟨body,b1,b2,b3⟩ := (Ec n).2 _ _ f1
 refine ⟨⟨ts,body⟩,t1,b1,?_⟩
 simp only [Rd]
 refine ⟨[a,b],by rw [← hab],?_⟩
 simp only [RdL]
 exact ⟨_,_,rfl,t3,t2,_,_,rfl,b3,b2,rfl⟩
theorem IJ {base:Nat}{v0:Value}{d0:DataW H}{p:List MemPlace}(hval:Value.okWide Tryz.prog W .any base 44 v0) (h0:DataW.Trod enc Tryz.prog W 0 (fun _ => true) true 44 v0 d0 p) :
  ∃ x : Iss,Rd W (fun _ => False) (fun _ => none) (CP x) v0 := by
 obtain ⟨cs,rfl,hsz⟩ := okWide_struct Tryz.underlying44 hval
 obtain ⟨fuel,hf⟩ := h0
 obtain ⟨xs,n,hn,_,hl,hlen,hg⟩ := DataW.trod_struct Tryz.underlying44 hf
 have f0 := hg 0 _ rfl
 have f1 := hg 1 _ rfl
 have f2 := hg 2 _ rfl
 have g : ∀ i,i < 3 → ∃ y,xs[i]? = some y := fun i hi => ⟨xs[i]'(by rw [hlen]; exact hi),List.getElem?_eq_getElem (by rw [hlen]; exact hi)⟩
 obtain ⟨y0,e0⟩ := g 0 (by decide)
 obtain ⟨y1,e1⟩ := g 1 (by decide)
 obtain ⟨y2,e2⟩ := g 2 (by decide)
 rw [e0] at f0
 rw [e1] at f1
 rw [e2] at f2
 change DataW.trod _ _ _ _ _ _ n 3 (((Value.agg cs).cells.toList.drop 0).take (Tryz.prog.cellsOf 3)) = _ at f0
 change DataW.trod _ _ _ _ _ _ n 3 (((Value.agg cs).cells.toList.drop 1).take (Tryz.prog.cellsOf 3)) = _ at f1
 change DataW.trod _ _ _ _ _ _ n 3 (((Value.agg cs).cells.toList.drop 2).take (Tryz.prog.cellsOf 3)) = _ at f2
 rw [zV] at f0 f1 f2
 have hcs : (Value.agg cs).cells.toList = cs.toList := rfl
 rw [G7] at hl
 rw [hcs] at hl f0 f1 f2
 obtain ⟨a, b, c, hab⟩ : ∃ a b c, cs.toList = [a, b, c] := by
  match h : cs.toList,hl with
  | [a,b,c],_ => exact ⟨a,b,c,rfl⟩
 rw [hab] at f0 f1 f2
 obtain ⟨n0,q0,_,_⟩ := DataW.trod_int Tryz.underlying3 f0
 obtain ⟨n1,q1,_,_⟩ := DataW.trod_int Tryz.underlying3 f1
 obtain ⟨n2,q2,_,_⟩ := DataW.trod_int Tryz.underlying3 f2
 simp at q0 q1 q2
 subst q0 q1 q2
 refine ⟨⟨n0,n1,n2⟩,?_⟩
 simp only [Rd]
 refine ⟨[.int .i64 n0,.int .i64 n1,.int .i64 n2],by rw [← hab],?_⟩
 simp only [RdL]
 exact ⟨_,_,rfl,rfl,(by simp only [Rd]),_,_,rfl,rfl,(by simp only [Rd]),_,_,rfl,rfl,(by simp only [Rd]),rfl⟩
end
end Go.Proofs.YtgkalkgplcdnkaaGreat
namespace Go.Proofs.YtgkalkgplcdnkaaGreat
open Go.AL Go.RowKit
theorem Fu (l:List Int) (hl:l.length ≤ 1048576):oW Tryz.prog 32 [sl cI l] (fun r E => ∃ a c B,r = .v (.slice a l.length c) ∧ E = [(.ints l,.slice a l.length c,B)]):=by
 (refine cS Tryz.func32 rfl (by simp [Tryz.ntmps32]) ?_; rw [Tryz.ntmps32])
 refine awt_lift ?_
 repeat' (first|refine aB ?_|fail)
 rw [EL]
 refine aL (σ := Nat × List Int) [0,3] [] (fun k => [(4,iv (k.1 : Int))]) (fun k => [(0,some (flat cI k.2))]) (fun k => k.1 ≤ l.length ∧ k.2.length = l.length ∧ (∀ j,j < k.1 → k.2[j]! = l[j]!)) (fun k => l.length - k.1) (0,List.replicate l.length 0) ⟨by omega,by simp,by omega⟩ ?_
 rintro ⟨k,u⟩ ⟨hk,hul,hu⟩
 dsimp only at hk hul hu ⊢
 repeat' (first|refine aB ?_|(refine aV ?_ ?_ <;> intro hc hq <;> try (exfalso;omega))|fail)
 ·(refine bT (k + 1, u.set k l[k]!) (Le.renA [(0, 0)]) ?_ ?_)
  ·refine ⟨by dsimp only; omega, by dsimp only; rw [List.length_set]; exact hul, fun j hj => ?_⟩
   dsimp only at hj ⊢
   rw [aX]
   by_cases e : k = j
   ·subst e;rw [if_pos ⟨rfl,by omega⟩]
   ·rw [if_neg (fun q => e q.1)]; exact hu j (by omega)
  ·dsimp only;omega
 ·have e : u = l := bJ hul fun j hj => hu j (by omega)
  subst e
  exact Ba rfl rfl rfl rfl (fun a c B => ⟨a,c,B,rfl,rfl⟩)
theorem Cq (m:Nat) (ih:∀ l,aJ l < m → oW Tryz.prog 33 [sl aF l] (fun r E => ∃ a c B,r = .v (.slice a l.length c) ∧ E = [(.stms l,.slice a l.length c,B)])) (s:AL.Stmt) (hs:cM s ≤ m) :
  oW Tryz.prog 77 [cE s] (fun r E => ∃ a4 c4 B4 a5 c5 B5,r = .agg [iv s.op,iv s.x,iv s.y,iv s.n,.v (.slice a4 s.th.length c4),.v (.slice a5 s.el.length c5)] ∧ E = [(.stms s.th,.slice a4 s.th.length c4,B4),(.stms s.el,.slice a5 s.el.length c5,B5)]) := by
 have hct := eH s
 have c1 := ih s.th (by omega)
 have c2 := ih s.el (by omega)
 (refine cS Tryz.func77 rfl (by simp [Tryz.ntmps77]) ?_; rw [Tryz.ntmps77])
 iterate 6
  refine aN (awt_lift ?_)
  repeat' (first|refine aB ?_|fail)
  show cC _ _ _ _ _ _
 refine aN (aZ ?_)
 refine aS (l1 := [_,_]) ?_
 repeat' (first|refine aO ?_|fail)
 refine ⟨rfl,?_⟩
 refine aM rfl (.cons (.pur PurV.pf) .nil) c1 rfl ?_
 rintro _ _ ⟨a4,d4,B4,rfl,rfl⟩
 refine aS (l1 := [_,_]) (l2 := []) ?_
 repeat' (first|refine aO ?_|fail)
 refine ⟨rfl,?_⟩
 refine aK ?_
 show cC _ _ _ _ _ _
 refine aN (aZ ?_)
 refine aS (l1 := [_,_]) ?_
 repeat' (first|refine aO ?_|fail)
 refine ⟨rfl,?_⟩
 refine aM rfl (.cons (.pur PurV.pf) .nil) c2 rfl ?_
 rintro _ _ ⟨a5,d5,B5,rfl,rfl⟩
 refine aS (l1 := [_,_]) (l2 := []) ?_
 repeat' (first|refine aO ?_|fail)
 refine ⟨rfl,?_⟩
 refine aK ?_
 show cC _ _ _ _ _ _
 refine awt_lift ?_
 repeat' (first|refine aB ?_|fail)
 exact nB (l := [.agg [iv s.op,iv s.x,iv s.y,iv s.n,.v (.slice a4 s.th.length d4),.v (.slice a5 s.el.length d5)]]) rfl rfl rfl ⟨a4,d4,B4,a5,d5,B5,rfl,rfl⟩
theorem Aq (m:Nat) (hm:m ≤ 1048576) (ih:∀ s,cM s ≤ m → oW Tryz.prog 77 [cE s] (fun r E => ∃ a4 c4 B4 a5 c5 B5,r = .agg [iv s.op,iv s.x,iv s.y,iv s.n,.v (.slice a4 s.th.length c4),.v (.slice a5 s.el.length c5)] ∧ E = [(.stms s.th,.slice a4 s.th.length c4,B4),(.stms s.el,.slice a5 s.el.length c5,B5)]))
  (l : List AL.Stmt) (hs : aJ l ≤ m) : oW Tryz.prog 33 [sl aF l] (fun r E => ∃ a c B,r = .v (.slice a l.length c) ∧ E = [(.stms l,.slice a l.length c,B)]) := by
 have hlen := bE l
 (refine cS Tryz.func33 rfl (by simp [Tryz.ntmps33]) ?_; rw [Tryz.ntmps33])
 iterate 2
  refine aN (awt_lift ?_)
  repeat' (first|refine aB ?_|fail)
  show cC _ _ _ _ _ _
 refine aN (aN (awt_lift ?_))
 repeat' (first|refine aB ?_|fail)
 show cC _ _ _ _ _ _
 rw [ES]
 refine eM ?_
 refine lG (σ := Nat × List SX) [0,3] [(0,_),(3,_)] [] [] (fun k => [(4,iv (k.1 : Int))]) (fun k => [(0,some (flat cT (k.2 ++ List.replicate (l.length - k.1) zT)))]) (fun k => eN k.2) (fun k => k.1 ≤ l.length ∧ k.2.length = k.1 ∧ (∀ j,j < k.1 → k.2[j]!.1 = l[j]!)) (fun k => l.length - k.1) (0,[]) ⟨by omega,rfl,by omega⟩ (rfl) rfl rfl (by repeat' (first|exact trivial|refine And.intro rfl ?_)) (by repeat' (first|exact trivial|refine And.intro (.inr rfl) ?_)) ?_
 rintro ⟨k,u⟩ ⟨hk,hul,hu⟩
 dsimp only at hk hul hu ⊢
 have hol : (u ++ List.replicate (l.length - k) zT).length = l.length := by rw [List.length_append,List.length_replicate]; omega
 refine aN (aN (awt_lift ?_))
 repeat' (first|refine aB ?_|fail)
 show cC _ _ _ _ _ _
 refine fY rfl (fun hb => gX ?_) (fun hb => p9 ?_)
 ·show cC _ _ _ _ _ _
  have hkl : k < l.length := by have := of_decide_eq_true hb;omega
  have hck := cZ l k hkl
  have c1 := ih l[k]! (by omega)
  refine aN (eM (aZ ?_))
  refine aS (l1 := [_,_,_,_,_,_]) ?_
  repeat' (first|refine aO ?_|fail)
  refine ⟨rfl,?_⟩
  refine aM rfl (.cons (.pur PurV.pf) .nil) c1 rfl ?_
  rintro _ _ ⟨a4,d4,B4,a5,d5,B5,rfl,rfl⟩
  refine aS (l1 := [_,_]) (l2 := []) ?_
  repeat' (first|(apply aH;(apply cO;rfl;rfl;rfl;rfl;rfl;(rw [aI cT (e := 6)]; (show _ + 6 ≤ _);omega);exact JO (l[k]!,(.slice a4 l[k]!.th.length d4,B4),(.slice a5 l[k]!.el.length d5,B5)) (by omega)))|refine aO ?_|fail)
  refine ⟨rfl,?_⟩
  refine aK ?_
  show cC _ _ _ _ _ _
  refine awt_lift ?_
  repeat' (first|refine aB ?_|fail)
  have e : (u ++ List.replicate (l.length - k) zT).set k (l[k]!, (.slice a4 l[k]!.th.length d4, B4), (.slice a5 l[k]!.el.length d5, B5)) = (u ++ [(l[k]!, (.slice a4 l[k]!.th.length d4, B4), (.slice a5 l[k]!.el.length d5, B5))]) ++ List.replicate (l.length - (k + 1)) zT := by
   rw [show l.length - k = l.length - (k + 1) + 1 by omega,List.replicate_succ,← hul]
   rw [List.set_append_right _ _ (Nat.le_refl _),Nat.sub_self,List.set_cons_zero,List.append_assoc]; rfl
  rw [e]
  refine ⟨(k + 1,u ++ [(l[k]!,(.slice a4 l[k]!.th.length d4,B4),(.slice a5 l[k]!.el.length d5,B5))]),⟨by dsimp only;omega,by simp [hul],fun j hj => ?_⟩,by dsimp only;omega,?_,b8 _ _⟩
  ·dsimp only at hj ⊢
   by_cases e2 : j < k
   ·rw [bG _ _ (by simp;omega),List.getElem_append_left (by omega),← bG u j (by omega)]; exact hu j e2
   ·have : j = k := by omega
    subst this
    rw [bG _ _ (by simp;omega),List.getElem_append_right (by omega)]; simp [hul]
  ·refine Le.ren [(0,0)] rfl (by decide) ?_ ?_ <;> repeat' (first|exact trivial|refine And.intro ⟨_,rfl,?_⟩ ?_|refine And.intro ⟨_,_,rfl,rfl,?_⟩ ?_|exact Or.inr rfl|refine Or.inl ⟨?_,(by first|rfl|exact bD _ _)⟩|rfl)
 ·have hkl : k = l.length := by have := of_decide_eq_false hb; omega
  show cC _ _ _ _ _ _
  have hm : u.map (·.1) = l := List.ext_getElem (by simp; omega) fun j h1 h2 => by
   have := hu j (by omega)
   rw [bG _ _ (by omega),bG _ _ h2] at this
   simpa using this
  have hul' : u.length = l.length := by omega
  rw [show u ++ List.replicate (l.length - k) zT = u by rw [hkl,Nat.sub_self]; simp]
  refine awt_lift ?_
  repeat' (first|refine aB ?_|fail)
  refine BB rfl rfl rfl hul'.symm (fun a c B => ⟨a,c,B,?_,?_⟩)
  ·rw [hul']
  ·rw [hul',hm]
theorem Dk:∀ (m:Nat),m ≤ 1048576 → (∀ s,cM s ≤ m → oW Tryz.prog 77 [cE s] (fun r E => ∃ a4 c4 B4 a5 c5 B5,r = .agg [iv s.op,iv s.x,iv s.y,iv s.n,.v (.slice a4 s.th.length c4),.v (.slice a5 s.el.length c5)] ∧ E = [(.stms s.th,.slice a4 s.th.length c4,B4),(.stms s.el,.slice a5 s.el.length c5,B5)])) ∧
  (∀ l,aJ l ≤ m → oW Tryz.prog 33 [sl aF l] (fun r E => ∃ a c B,r = .v (.slice a l.length c) ∧ E = [(.stms l,.slice a l.length c,B)])) := by
 intro m
 induction m using Nat.strongRecOn with
 | ind m ih =>
  intro hm
  have h1 := fun s a1 => Cq m (fun l g1 => (ih (aJ l) g1 (by omega)).2 l (Nat.le_refl _)) s a1
  exact ⟨h1,fun l g1 => Aq m hm h1 l g1⟩
theorem xO (p:Prg) (hl:p.types.length ≤ 1048576) (hs:aJ p.body ≤ 1048576):oW Tryz.prog 9 [bW p] (fun r E => ∃ a4 c4 B4 a5 c5 B5,r = .agg [.v (.slice a4 p.types.length c4),.v (.slice a5 p.body.length c5)] ∧ E = [(.ints p.types,.slice a4 p.types.length c4,B4),(.stms p.body,.slice a5 p.body.length c5,B5)]):=by
 have c1 := Fu p.types hl
 have c2 := (Dk _ hs).2 p.body (Nat.le_refl _)
 (refine cS Tryz.func9 rfl (by simp [Tryz.ntmps9]) ?_; rw [Tryz.ntmps9])
 iterate 2
  refine aN (awt_lift ?_)
  repeat' (first|refine aB ?_|fail)
  show cC _ _ _ _ _ _
 refine aN (aZ ?_)
 refine aS (l1 := [_,_]) ?_
 repeat' (first|refine aO ?_|fail)
 refine ⟨rfl,?_⟩
 refine aM rfl (.cons (.pur PurV.pf) .nil) c1 rfl ?_
 rintro _ _ ⟨a4,d4,B4,rfl,rfl⟩
 refine aS (l1 := [_,_]) (l2 := []) ?_
 repeat' (first|refine aO ?_|fail)
 refine ⟨rfl,?_⟩
 refine aK ?_
 show cC _ _ _ _ _ _
 refine aN (aZ ?_)
 refine aS (l1 := [_,_]) ?_
 repeat' (first|refine aO ?_|fail)
 refine ⟨rfl,?_⟩
 refine aM rfl (.cons (.pur PurV.pf) .nil) c2 rfl ?_
 rintro _ _ ⟨a5,d5,B5,rfl,rfl⟩
 refine aS (l1 := [_,_]) (l2 := []) ?_
 repeat' (first|refine aO ?_|fail)
 refine ⟨rfl,?_⟩
 refine aK ?_
 show cC _ _ _ _ _ _
 refine awt_lift ?_
 repeat' (first|refine aB ?_|fail)
 exact nB (l := [.agg [.v (.slice a4 p.types.length d4),.v (.slice a5 p.body.length d5)]]) rfl rfl rfl ⟨a4,d4,B4,a5,d5,B5,rfl,rfl⟩
theorem qW (l:List Int) (k:Int) (hk0:0 ≤ k) (hk:k + l.length ≤ 1000000000):TMk Tryz.prog 14 (.ints l) (.ints (oK k l.length)) k (k + l.length):=by
 refine Fv Tryz.func14 rfl (by simp [Tryz.ntmps14]) (mL _ _) (fun h => ?_) (fun h => ?_)
 ·subst h
  refine aD Tryz.func14 Tryz.ntmps14 ?_
  repeat' (first|refine aB ?_|fail)
  refine aL (σ := Unit) [0,1,5] [] (fun u => []) (fun u => []) (fun u => True) (fun u => 0) () trivial ?_
  rintro u _
  repeat' (first|refine aB ?_|fail)
  refine aP rfl ⟨?_,rfl⟩
  simp [aR]
 ·rw [Tryz.ntmps14]
  repeat' (first|refine aB ?_|fail)
  refine aL (σ := Nat × Int × List Int) [0] [] (fun i => [(5,iv (i.1 : Int)),(1,iv i.2.1)]) (fun i => [(0,some (flat cI i.2.2))]) (fun i => i.1 ≤ l.length ∧ i.2.1 = k + i.1 ∧ i.2.2 = oK k i.1 ++ l.drop i.1) (fun i => l.length - i.1) (0,k,l) ⟨by omega,by simp,by simp [oK]⟩ ?_
  rintro ⟨i,z,u⟩ ⟨hi,hz,hu⟩
  dsimp only at hi hz hu ⊢
  have hul : u.length = l.length := by rw [hu,List.length_append,mL,List.length_drop]; omega
  by_cases hil : i < l.length
  ·have e : u.set i z = oK k (i + 1) ++ l.drop (i + 1) := by
    rw [hu,D4,List.drop_eq_getElem_cons hil,List.set_append_right _ _ (by rw [mL]; exact Nat.le_refl _),mL,Nat.sub_self,List.set_cons_zero,hz]; simp
   repeat' (first|refine aB ?_|(refine aV ?_ ?_ <;> intro hc hq <;> try (exfalso;omega))|fail)
   rw [e]
   (refine bT (i + 1,z + 1,oK k (i + 1) ++ l.drop (i + 1)) (Le.renA []) ?_ ?_)
   ·exact ⟨by dsimp only;omega,by dsimp only;omega,rfl⟩
   ·dsimp only;omega
  ·have hie : i = l.length := by omega
   subst hie
   repeat' (first|refine aB ?_|(refine aV ?_ ?_ <;> intro hc hq <;> try (exfalso;omega))|fail)
   refine ⟨.inl rfl,?_,?_⟩
   ·rw [hz]; rfl
   ·show some (flat cI u) = _
    rw [hu,List.drop_length,List.append_nil]
theorem Ic {xs:List SX}{k:Nat}{v:Int}(hk:k < xs.length):fG (flat cT xs) (0 + k * 6 + 0) [iv v] = flat cT (xs.set k (.mk v xs[k]!.1.x xs[k]!.1.y xs[k]!.1.n xs[k]!.1.th xs[k]!.1.el,xs[k]!.2)) := lA hk (by simp) rfl
theorem Ih {xs:List SX}{k:Nat}{v:Int}(hk:k < xs.length):fG (flat cT xs) (0 + k * 6 + 1) [iv v] = flat cT (xs.set k (.mk xs[k]!.1.op v xs[k]!.1.y xs[k]!.1.n xs[k]!.1.th xs[k]!.1.el,xs[k]!.2)) := lA hk (by simp) rfl
theorem Ji {xs:List SX}{k:Nat}{v:Int}(hk:k < xs.length):fG (flat cT xs) (0 + k * 6 + 2) [iv v] = flat cT (xs.set k (.mk xs[k]!.1.op xs[k]!.1.x v xs[k]!.1.n xs[k]!.1.th xs[k]!.1.el,xs[k]!.2)) := lA hk (by simp) rfl
theorem Iy {xs:List SX}{k:Nat}{v:Int}(hk:k < xs.length):fG (flat cT xs) (0 + k * 6 + 3) [iv v] = flat cT (xs.set k (.mk xs[k]!.1.op xs[k]!.1.x xs[k]!.1.y v xs[k]!.1.th xs[k]!.1.el,xs[k]!.2)) := lA hk (by simp) rfl
theorem lL (us rs:List SX) (a:SX):(us ++ a :: rs)[us.length]! = a:=by
 rw [bG _ _ (by simp),List.getElem_append_right (Nat.le_refl _)]; simp
theorem pC (us rs:List SX) (a b:SX):(us ++ a :: rs).set us.length b = us ++ b :: rs:=by
 rw [List.set_append_right _ _ (Nat.le_refl _),Nat.sub_self,List.set_cons_zero]
theorem JG {us rs:List SX}{o x y n v:Int}{th el:List AL.Stmt}{p:(Value × List Nat) × (Value × List Nat)}:fG (flat cT (us ++ (.mk o x y n th el,p) :: rs)) (0 + us.length * 6 + 0) [iv v] = flat cT (us ++ (.mk v x y n th el,p) :: rs):=by
 rw [Ic (by simp),lL,pC]; rfl
theorem J3 {us rs:List SX}{o x y n v:Int}{th el:List AL.Stmt}{p:(Value × List Nat) × (Value × List Nat)}:fG (flat cT (us ++ (.mk o x y n th el,p) :: rs)) (0 + us.length * 6 + 1) [iv v] = flat cT (us ++ (.mk o v y n th el,p) :: rs):=by
 rw [Ih (by simp),lL,pC]; rfl
theorem JH {us rs:List SX}{o x y n v:Int}{th el:List AL.Stmt}{p:(Value × List Nat) × (Value × List Nat)}:fG (flat cT (us ++ (.mk o x y n th el,p) :: rs)) (0 + us.length * 6 + 2) [iv v] = flat cT (us ++ (.mk o x v n th el,p) :: rs):=by
 rw [Ji (by simp),lL,pC]; rfl
theorem JJ {us rs:List SX}{o x y n v:Int}{th el:List AL.Stmt}{p:(Value × List Nat) × (Value × List Nat)}:fG (flat cT (us ++ (.mk o x y n th el,p) :: rs)) (0 + us.length * 6 + 3) [iv v] = flat cT (us ++ (.mk o x y v th el,p) :: rs):=by
 rw [Iy (by simp),lL,pC]; rfl
theorem It (us rs:List SX) (a b:SX) (h:cT a = cT b):flat cT (us ++ a :: rs) = flat cT (us ++ b :: rs):=by
 rw [← bS,← bS]
 congr 1
 show cT a ++ flat cT rs = cT b ++ flat cT rs
 rw [h]
theorem Bp (us rs:List SX) (a:SX):eN (us ++ a :: rs) = eN us ++ ([(.stms a.1.th,a.2.1.1,a.2.1.2)] ++ ([(.stms a.1.el,a.2.2.1,a.2.2.2)] ++ eN rs)):=by
 unfold eN;rw [List.flatMap_append]; simp
theorem qV (n:Nat) (k:Int) (hk0:0 ≤ k) (hk:k + n ≤ 1000000000):PC Tryz.prog 15 [sl cI (oK k n),iv k] (fun r => r = iv (k + n)):=by
 have hl := mL k n
 have hg : ∀ i,i < n → (oK k n)[i]! = k + (i : Int) := fun i hi => bH _ _ _ hi
 generalize oK k n = L at *
 refine aD Tryz.func15 Tryz.ntmps15 ?_
 repeat' (first|refine aB ?_|fail)
 refine aL (σ := Nat × Int) [0] [] (fun i => [(5,iv (i.1 : Int)),(1,iv i.2)]) (fun i => []) (fun i => i.1 ≤ n ∧ i.2 = k + i.1) (fun i => n - i.1) (0,k) ⟨by omega,by simp⟩ ?_
 rintro ⟨i,z⟩ ⟨hi,hz⟩
 dsimp only at hi hz ⊢
 by_cases hin : i < n
 ·have hgi := hg i hin
  repeat' (first|refine aB ?_|(refine aV ?_ ?_ <;> intro hc hq <;> try (exfalso;omega))|fail)
  all_goals first
   | (exfalso;omega)
   | ((refine bT (i + 1, z + 1) (Le.renA []) ?_ ?_)
      ·exact ⟨by dsimp only;omega,by dsimp only;omega⟩
      ·dsimp only;omega)
 ·have hie : i = n := by omega
  subst hie
  repeat' (first|refine aB ?_|(refine aV ?_ ?_ <;> intro hc hq <;> try (exfalso;omega))|fail)
  refine aP rfl ⟨?_,rfl⟩
  simp only [aR,hz]
end Go.Proofs.YtgkalkgplcdnkaaGreat
