/-
 A part of the proofs over this program: rules and contracts of its functions (the contracts).
-/
import Derived.Test.YtgkalkgplcdnkaaGreatDoorV2B02
set_option linter.unusedVariables false
set_option linter.unusedSimpArgs false
set_option maxHeartbeats 8000000
set_option maxRecDepth 4000
attribute [local irreducible] Go.AL.RW Go.AL.AW Go.AL.Stop
namespace Go.Proofs.YtgkalkgplcdnkaaGreatDoor
open Go.AL Go.RowKit
variable {N : Nat} {Q : Exit → AS → Prop} {all : Array Oper} {rest : List Oper} {tsl : List (Nat × AV)} {hsl : List (Nat × Option (List AV))} {nidl : Nat} {z0 : Lo} {md : Md} {d : Nat} {ty : TypeId} {pos : String} {af : Array Edge} {tys : Array TypeId}
def DZ (nv N : Nat) (i : Nat) : List AV := [.imm nv (flat (wX (i * (nv + 1)) N) (List.range nv)),.own (i * (nv + 1) + nv + aS) 0 N 1]
instance (nv N : Nat) : FlT (DZ nv N) 2:=⟨fun _ => rfl⟩
instance (nv N : Nat) : FE (DZ nv N) (fun i => [.imm nv (flat (wX (i * (nv + 1)) N) (List.range nv)),.own (i * (nv + 1) + nv + aS) 0 N 1]):=⟨fun _ => rfl⟩
theorem n0 {m:List (Nat × Nat)}{lo:Lo}{pn:Option Nat}{nv N k M:Nat}(hk:k ≤ M) (h:lo.fb = aS + M * (nv + 1)):RnL (iB m lo pn) (flat (DZ nv N) (List.range k)) (flat (DZ nv N) (List.range k)) :=
 RnL.flt fun i hi => by
  rw [List.mem_range] at hi
  have h1 : i * (nv + 1) + nv < M * (nv + 1) := fE (by omega) (by omega)
  exact .cons (.imm (cL (by rw [h]; omega))) (.cons (.own (fT (by omega) (by rw [h]; omega))) .nil)
theorem EG {m:List (Nat × Nat)}{lo:Lo}{pn:Option Nat}{nv N k:Nat}(h:lo.fb = aS + (k + 1) * (nv + 1)):RnL (iB m lo pn) (flat (DZ nv N) (List.range (k + 1))) (((flat (DZ nv N) (List.range k)).drop 0).take (k * 2) ++ DZ nv N k):=by
 have e : ((flat (DZ nv N) (List.range k)).drop 0).take (k * 2) = flat (DZ nv N) (List.range k) := List.take_of_length_le (by rw [List.drop_zero,aM (DZ nv N) (e := 2)]; simp)
 have := n0 (m := m) (pn := pn) (N := N) (Nat.le_refl (k + 1)) h
 rw [e]
 rw [List.range_succ,← bY,kI] at this ⊢
 exact this
def Lk (s : List (List Bool) × List Bool) : List AV := [sl fQ s.1,sl cB s.2]
instance : FlT Lk 2:=⟨fun _ => rfl⟩
instance : FE Lk (fun s => [sl fQ s.1,sl cB s.2]):=⟨fun _ => rfl⟩
theorem Ja {D:List Nat}{hs:List (Nat × Option (List AV))}{R:List (List Bool)}{nv N M n:Nat}(hF:FamR R R hs hs) (hD:∀ k,k < nv + 1 → n * (nv + 1) + k + aS ∈ D) (hlo:R.length = M * (nv + 1)) (hn:n < M) (hro:∀ q,q < R.length → R[q]!.length = N) :
  LdL D (aR hs) (DZ nv N n) [sl fQ (iW nv R n),sl cB (jK nv R n)] := by
 have h1 : n * (nv + 1) + nv < M * (nv + 1) := fE hn (by omega)
 have h2 : (iW nv R n).length = nv := o9 hlo hn
 have h3 : (jK nv R n).length = N := hro _ (by omega)
 have e1 : sl fQ (iW nv R n) = .imm nv (flat fQ ((R.drop (n * (nv + 1))).take nv)) := by unfold sl;rw [h2]; rfl
 have e2 : sl cB (jK nv R n) = .imm N (flat cB (jK nv R n)) := by unfold sl;rw [h3]
 rw [e1,e2]
 exact .cons (.imm (LdL.rows hF (fun k hk => hD k (by omega)) (by omega) (fun k hk => hro _ (by omega)))) (.cons (.own (hD nv (by omega)) (hF.get (by omega)) (.pur (inferInstance : Pur (flat cB _)).pf)) .nil)
def HA (b : Nat) : List Nat := [b + 0 + aS,b + 1 + aS,b + 2 + aS,b + 3 + aS,b + 4 + aS,b + 5 + aS,b + 6 + aS]
theorem y4 {b k:Nat}(h:k < 7):b + k + aS ∈ HA b:=by
 unfold HA
 match k,h with
 | 0,_ => simp
 | 1,_ => simp
 | 2,_ => simp
 | 3,_ => simp
 | 4,_ => simp
 | 5,_ => simp
 | 6,_ => simp
theorem qW {nv N n k:Nat}{R:List (List Bool)}(hlo:R.length = N * (nv + 1)) (hn:n < N) (hk:k < nv + 1):((R.drop (n * (nv + 1))).take (nv + 1))[k]! = R[n * (nv + 1) + k]!:=by
 have h1 := fE hn hk
 have h2 : n * (nv + 1) + nv < N * (nv + 1) := fE hn (by omega)
 rw [a8 _ _ (by rw [List.length_take,List.length_drop]; omega),a8 _ _ (by omega),List.getElem_take,List.getElem_drop]
theorem jC {nv N n:Nat}{R:List (List Bool)}(hlo:R.length = N * (nv + 1)) (hn:n < N):((R.drop (n * (nv + 1))).take (nv + 1)).length = nv + 1:=by
 have h2 : n * (nv + 1) + nv < N * (nv + 1) := fE hn (by omega)
 rw [List.length_take,List.length_drop]; omega
theorem DQ (ts:List Int) (pts:List Pnt) (w:WG ts pts) (i:Nat) (hi:i < pts.length) (R:List (List Bool)) (h:FSd ts pts R) :
  KN Tryz.prog 117 [sl cI ts,sl bK pts,iv (i : Int),JX 0 ts.length pts.length] ((R.drop (i * (ts.length + 1))).take (ts.length + 1)) (.agg [sl fQ (nI ts pts i (iW ts.length R i)),sl cB (nJ ts pts i (jK ts.length R i))]) [] := by
 have h1 := CW ts pts w i hi ((R.drop (i * (ts.length + 1))).take (ts.length + 1)) (jC h.lo hi) (fun k hk => by rw [qW h.lo hi hk]; exact h.ro _ (by rw [h.lo]; exact fE hi hk))
 rw [qW h.lo hi (by omega),List.take_take,show min ts.length (ts.length + 1) = ts.length from by omega] at h1
 exact h1
theorem B6 {ts:List Int}{pts:List Pnt}(w:WG ts pts){R:List (List Bool)}(h:FSd ts pts R){i v:Nat}(hi:i < pts.length) (hv:v < ts.length):(nI ts pts i (iW ts.length R i))[v]!.length = pts.length:=by
 rw [jR _ _ _ _ _ hv]
 split
 ·exact gX _ _ _ _
 ·split
  ·simp
  ·rw [fR h.lo hi hv]; exact h.ro _ (by rw [h.lo]; exact fE hi (by omega))
theorem qU {b:List Bool}{R:List (List Bool)}{k m:Nat}{x0 x1:Operand}(ha0:ev (lk tsl) x0 = some (.own (k + aS) 0 m 1)) (ha1:ev (lk tsl) x1 = some (sl cB b))
  (hF : FamR R R hsl hsl) (hk : k < R.length) (hm : m = R[k]!.length) (hab : b.length ≤ R[k]!.length) (hl : R[k]!.length ≤ 1048576) (hM : Nat.ble (nidl + 0) aS = true) (hN : Nat.blt d N = true) {md' : Md} [hmd : MdA md (iA [x0,x1] ++ [.inr (k + aS)]) [.inr (k + aS),.inl d] md']
  (kk : RW Tryz.prog N all Q md' rest ⟨(d,.tup []) :: tsl,(k + aS,some (flat cB (fM R[k]! b))) :: hsl,nidl + 0,z0⟩) : RW Tryz.prog N all Q md (⟨some d,.call ⟨.value (.func 119),#[x0,x1],tys⟩,ty,pos,af,none⟩ :: rest) ⟨tsl,hsl,nidl,z0⟩ :=
 yR (a := R[k]!) (b := b) (i0 := k + aS) ha0 ha1 (hF.get hk) (Cg R[k]! b m hm hab hl) hM hN (md' := md') (hmd := hmd) kk
theorem y7 (p:Prg) (Af Ap:List Nat) (hs:aN p.body ≤ 1048576) (w:WG p.types (aB p)) (hAf:oD p.types (aB p) Af) (hAp:oG p.types (aB p) Ap):PC Tryz.prog 82 [bU p] (fun r => r = sl Lk ((List.range (aB p).length).map (gH p.types.length (aB p).length Af Ap))):=by
 have hpl := w.pl
 have hp0 := w.p0
 have htl := w.tl
 refine aC Tryz.func82 Tryz.ntmps82 ?_
 repeat' (first|(apply aF;(apply aA (k := 23);rfl;exact dD p hs;exact Pur.pf;rfl))|refine aD ?_|fail)
 refine dH (σ := Nat) (fun k => List.replicate ((p.types.length + 1) * k) (List.replicate (aB p).length false)) [1,3] [0] (fun k => [(5,iv (k : Int)),(4,.own 1 0 k 2)]) (fun k => [(1,some (flat (DZ p.types.length (aB p).length) (List.range k)))]) (fun k => k ≤ (aB p).length) (fun k => (aB p).length - k) (0) (Nat.zero_le _) ?_
 intro k hk
 try dsimp only
 repeat' (first|(apply aF;first|(with_reducible apply bW (d := 27))|(with_reducible apply bW (d := 6)))|refine aD ?_|(refine aK ?_ ?_ <;> intro hc hq <;> try (exfalso;omega))|fail)
 ·have hrep : List.replicate ((p.types.length + 1) * k) (List.replicate (aB p).length false) ++ List.replicate (p.types.length + 1) (List.replicate (aB p).length false) = List.replicate ((p.types.length + 1) * (k + 1)) (List.replicate (aB p).length false) := by
   rw [List.replicate_append_replicate,Nat.mul_succ]
  refine dQ ?_
  have hst := DE p.types.length (aB p).length htl hpl
  apply EC (R := List.replicate ((p.types.length + 1) * k) (List.replicate (aB p).length false)) (avs := [iv (p.types.length : Int),iv ((aB p).length : Int)]) (rr' := JX (k * (p.types.length + 1)) p.types.length (aB p).length) (h := hst)
  case ha => rfl
  case hp => rfl
  case hF => (repeat' (first|exact FamR.here|(apply FamR.cons;focus rfl)))
  case hz => rfl
  case hM => rfl
  case hN => rfl
  case hr =>
   refine .agg (.cons (.imm (rn_rows fun j hj => ?_)) (.cons (.own ?_) .nil))
   ·rw [if_pos (by rw [List.length_replicate]; omega)]; congr 1;rw [List.length_replicate,Nat.mul_comm]; omega
   ·rw [if_pos (by rw [List.length_replicate]; omega)]; congr 1;rw [List.length_replicate,Nat.mul_comm]; omega
  rw [hrep]
  repeat' (first|(apply aF;(apply cH;rfl;rfl;rfl;rfl;rfl;(case hl => (simp [aM]; done));(rfl);omega;omega;(rfl);rfl;rfl))|refine aD ?_|fail)
  (apply aY (k + 1);focus (refine Le.renF0 [(0,0),(1,3)] (R := ?qA1) (hF := ?qF1) (hz := ?qz1) (hm := ?qm1) (hn := ?qn1) (h1 := ?q11) (h2 := ?q21);(case qF1 => (repeat' (first|exact FamR.here|(apply FamR.cons;focus rfl))));(case qz1 => (rfl));(case qm1 => rfl);(case qn1 => decide);all_goals (repeat' (first|exact trivial|refine And.intro ⟨_,rfl,?_⟩ ?_|refine And.intro ⟨_,_,rfl,rfl,?_⟩ ?_|exact RnL.purI inferInstance|exact RnV.purI inferInstance|exact RnV.own rfl|exact RnV.optr rfl|exact EG (by show aS + (List.replicate ((p.types.length + 1) * (k + 1)) (List.replicate (aB p).length false)).length = _; rw [List.length_replicate,Nat.mul_comm])))))
  ·show k + 1 ≤ (aB p).length;omega
  ·show (aB p).length - (k + 1) < (aB p).length - k;omega
 ·have hkN : k = (aB p).length := by omega
  subst hkN
  refine dQ (dR ?_ (Le.frzD (d := 4) (i := 1) rfl rfl))
  rw [Nat.mul_comm]
  repeat' (first|refine aD ?_|fail)
  refine dH (σ := List (List Bool) × Bool) (fun s => s.1) [1,3,4] [0] (fun s => [(6,bv s.2)]) (fun s => []) (fun s => FH p.types (aB p) s.1 s.2) (fun s => Ly p.types (aB p) s.1 s.2) (List.replicate ((aB p).length * (p.types.length + 1)) (List.replicate (aB p).length false),true) (FH.init _ _) ?_
  rintro ⟨R,c⟩ hFH
  try dsimp only at hFH
  try dsimp only
  have hRl := hFH.d.lo
  have hRr := hFH.d.ro
  cases c with
  | false =>
   repeat' (first|refine aD ?_|fail)
   have hfin := hFH.final w hAf hAp
   refine aT (Le.frzAll (d := 2) (D := (List.range R.length).map fun k => k + aS) rfl (.imm (LdL.flt fun n hn => Ja (R := R) (M := (aB p).length) (by (repeat' (first|exact FamR.here|(apply FamR.cons;focus rfl)))) (fun k hk => List.mem_map.2 ⟨n * (p.types.length + 1) + k,by rw [List.mem_range,hRl]; exact fE (List.mem_range.1 hn) hk,rfl⟩) hRl (List.mem_range.1 hn) hRr))) ?_
   refine aE rfl ⟨?_,(by (exact a7 _ _))⟩
   simp only [aO]
   have e1 : (List.range (aB p).length).map (fun n => (iW p.types.length R n, jK p.types.length R n)) = (List.range (aB p).length).map (gH p.types.length (aB p).length Af Ap) := List.map_congr_left fun n hn => by
    have := hfin n (List.mem_range.1 hn)
    rw [this.1,this.2]
   have e2 : flat (fun n => [sl fQ (iW p.types.length R n), sl cB (jK p.types.length R n)]) (List.range (aB p).length) = flat Lk ((List.range (aB p).length).map (gH p.types.length (aB p).length Af Ap)) := by
    rw [← e1,flat,flat,List.flatMap_map]; rfl
   rw [e2]
   simp only [sl,List.length_map,List.length_range]
  | true =>
   have hst := hFH.start
   repeat' (first|refine aD ?_|fail)
   refine dH (σ := Nat × List (List Bool) × Bool) (fun s => s.2.1) [1,3,4] [0] (fun s => [(6,bv s.2.2),(7,iv (s.1 : Int))]) (fun s => []) (fun s => s.1 ≤ (aB p).length ∧ FS p.types (aB p) R s.2.1 s.2.2 (DF s.1 0)) (fun s => (aB p).length - s.1) (0,R,false) ⟨Nat.zero_le _,hst⟩ ?_
   rintro ⟨j,R1,c1⟩ ⟨hj,hS1⟩
   dsimp only at hj hS1
   have hl1 := hS1.d.lo
   try dsimp only
   by_cases hjn : j < (aB p).length
   ·have hnl := w.nl j hjn
    repeat' (first|(apply aF;first|(apply x9 (k := 117) (R := R1) (avs0 := [sl cI p.types,sl bK (aB p),iv (j : Int),JX 0 p.types.length (aB p).length]) (b := j * (p.types.length + 1)) (n1 := 0) (D := HA (j * (p.types.length + 1))) (ws := []) (h := DQ p.types (aB p) w j hjn R1 hS1.d) (rr' := .agg [sl fQ (nI p.types (aB p) j (iW p.types.length R1 j)),sl cB (nJ p.types (aB p) j (jK p.types.length R1 j))]);(case ha => rfl);(case hF => (repeat' (first|exact FamR.here|(apply FamR.cons;focus rfl))));(case hb => (rw [jC hl1 hjn]; have := fE (v := p.types.length) hjn (Nat.lt_succ_self _);omega));(case hR => exact fun k hk => qW hl1 hjn (by rwa [jC hl1 hjn] at hk));(case hD => exact fun k hk => y4 (by rw [jC hl1 hjn] at hk;omega));(case har => exact .cons (RnV.purI inferInstance) (.cons (RnV.purI inferInstance) (.cons (RnV.purI inferInstance) (.cons (.agg (.cons (.imm (rn_rows fun k hk => (by rw [Nat.zero_add,k9 (by rw [jC hl1 hjn]; omega)]))) (.cons (.own (by rw [Nat.zero_add,k9 (by rw [jC hl1 hjn]; omega)])) .nil))) .nil))));(case hk => rfl);(case hr => exact RnV.purI inferInstance);(case hw => exact trivial);(case hM|hN => rfl))|(apply l7;rfl;rfl;(assumption);rfl;infer_instance;infer_instance;rfl)|(apply c7;rfl;rfl;rfl;rfl;rfl;(case hl => (simp;done));(exact (rfl:_=[_,_]))))|refine aD ?_|(refine aK ?_ ?_ <;> intro hc hq <;> try (exfalso;omega))|refine bT ?_|fail)
    refine dH (σ := Nat × List (List Bool) × Bool) (fun s => s.2.1) [1,3,4,7,8] [0,2] (fun s => [(6,bv s.2.2),(9,iv (s.1 : Int))]) (fun s => []) (fun s => s.1 ≤ (aB p)[j]!.next.length ∧ FS p.types (aB p) R s.2.1 s.2.2 (DF j s.1) ∧ (s.2.2 = false → s.2.1 = R1)) (fun s => (aB p)[j]!.next.length - s.1) (0,R1,c1) ⟨Nat.zero_le _,hS1,fun _ => rfl⟩ ?_
    rintro ⟨kk,R2,c2⟩ ⟨hk,hS2,hc2⟩
    dsimp only at hk hS2 hc2
    have hl2 := hS2.d.lo
    have hr2 := hS2.d.ro
    try dsimp only
    by_cases hkn : kk < (aB p)[j]!.next.length
    ·have hnx := w.nx j hjn _ (aZ _ _ hkn)
     have hnn : ((aB p)[j]!.next[kk]!).toNat < (aB p).length := by omega
     have hix : ((aB p)[j]!.next[kk]!).toNat * (p.types.length + 1) + p.types.length < R2.length := by rw [hl2]; exact fE hnn (by omega)
     have hrix := hr2 _ hix
     have hqa := b8 p.types (aB p) j (jK p.types.length R1 j)
     have hw1 := zT (nI p.types (aB p) j (iW p.types.length R1 j)) (iW p.types.length R2 ((aB p)[j]!.next[kk]!).toNat) (nJ p.types (aB p) j (jK p.types.length R1 j)) (jK p.types.length R2 ((aB p)[j]!.next[kk]!).toNat) (by rw [b8]; exact hpl) (by rw [dG]; exact htl)
      (by rw [b8]; exact hr2 _ (by rw [hl2]; exact fE hnn (by omega))) (by rw [dG]; exact o9 hl2 hnn) (fun v hv => by rw [dG] at hv;rw [b8]; exact B6 w hS1.d hjn hv) (fun v hv => by rw [dG] at hv;rw [b8,fR hl2 hnn hv]; exact hr2 _ (by rw [hl2]; exact fE hnn (by omega)))
     repeat' (first|(apply aF;first|((with_reducible apply Es (k := 118) (D := HA (((aB p)[j]!.next[kk]!).toNat * (p.types.length + 1))) (h := hw1));(case ha => rfl);(case hl => exact .cons (.pur (PurV.pf)) (.cons (.agg (Ja (R := R2) (M := (aB p).length) (by (repeat' (first|exact FamR.here|(apply FamR.cons;focus rfl)))) (fun k hk => y4 (by omega)) hl2 hnn hr2)) .nil));(case hfr|hN => rfl))|(apply qU;rfl;rfl;(case hF => (repeat' (first|exact FamR.here|(apply FamR.cons;focus rfl))));omega;omega;omega;omega;rfl;rfl)|(with_reducible apply bW (d := 11))|(apply iL;rfl;rfl;(assumption);rfl;infer_instance;infer_instance;rfl))|refine aD ?_|(refine aK ?_ ?_ <;> intro hc hq <;> try (exfalso;omega))|refine bT ?_|fail)
     ·refine dQ ?_
      apply dR
      case k =>
       apply Le.fset (R := R2) (hk := hix)
       (repeat' (first|exact FamR.here|(apply FamR.cons;focus rfl)))
      rw [Ed hix]
      repeat' (first|refine aD ?_|fail)
      refine dH (σ := Nat) (fun v => xQ R2 (((aB p)[j]!.next[kk]!).toNat * (p.types.length + 1)) p.types.length (nI p.types (aB p) j (iW p.types.length R1 j)) (nJ p.types (aB p) j (jK p.types.length R1 j)) v) [1,3,4,7,8,9,10] [0,2] (fun v => [(11,iv (v : Int))]) (fun v => []) (fun v => v ≤ p.types.length) (fun v => p.types.length - v) (0) (Nat.zero_le _) ?_
      intro v hv
      try dsimp only
      have hjl := eF R2 (((aB p)[j]!.next[kk]!).toNat * (p.types.length + 1)) p.types.length (nI p.types (aB p) j (iW p.types.length R1 j)) (nJ p.types (aB p) j (jK p.types.length R1 j)) v
      have hal := dG p.types (aB p) j (iW p.types.length R1 j)
      by_cases hvn : v < p.types.length
      ·have hav := B6 w hS1.d hjn hvn
       have hjr : (xQ R2 (((aB p)[j]!.next[kk]!).toNat * (p.types.length + 1)) p.types.length (nI p.types (aB p) j (iW p.types.length R1 j)) (nJ p.types (aB p) j (jK p.types.length R1 j)) v)[((aB p)[j]!.next[kk]!).toNat * (p.types.length + 1) + v]!.length = (aB p).length := by
        rw [fB _ _ _ _ _ _ _ (by omega),if_neg (by omega),if_neg (by omega)]; exact hr2 _ (by omega)
       repeat' (first|(apply aF;first|(apply qU;rfl;rfl;(case hF => (repeat' (first|exact FamR.here|(apply FamR.cons;focus rfl))));omega;omega;omega;omega;rfl;rfl)|(with_reducible apply bW (d := 84))|(apply l7;rfl;rfl;(assumption);rfl;infer_instance;infer_instance;rfl)|(apply iL;rfl;rfl;(assumption);rfl;infer_instance;infer_instance;rfl))|refine aD ?_|(refine aK ?_ ?_ <;> intro hc hq <;> try (exfalso;omega))|refine bT ?_|fail)
       refine dQ ?_
       apply dR
       case k =>
        apply Le.fset (R := xQ R2 (((aB p)[j]!.next[kk]!).toNat * (p.types.length + 1)) p.types.length (nI p.types (aB p) j (iW p.types.length R1 j)) (nJ p.types (aB p) j (jK p.types.length R1 j)) v) (hk := (by omega))
        (repeat' (first|exact FamR.here|(apply FamR.cons;focus rfl)))
       rw [EX hix hvn]
       repeat' (first|refine aD ?_|fail)
       (apply aY (v + 1);focus (refine Le.renF0 [(0,0),(2,2)] (R := ?qA2) (hF := ?qF2) (hz := ?qz2) (hm := ?qm2) (hn := ?qn2) (h1 := ?q12) (h2 := ?q22);(case qF2 => (repeat' (first|exact FamR.here|(apply FamR.cons;focus rfl))));(case qz2 => (simp only [eF]));(case qm2 => rfl);(case qn2 => decide);all_goals (repeat' (first|exact trivial|refine And.intro ⟨_,rfl,?_⟩ ?_|refine And.intro ⟨_,_,rfl,rfl,?_⟩ ?_|exact RnL.purI inferInstance|exact RnV.purI inferInstance|exact RnV.optr rfl|exact RnV.imm (n0 (M := (aB p).length) (Nat.le_refl _) (by show aS + (xQ _ _ _ _ _ _).length = _; rw [eF,hl2]))))))
       ·show v + 1 ≤ p.types.length;omega
       ·show p.types.length - (v + 1) < p.types.length - v;omega
      ·repeat' (first | refine aD ?_ | (refine aK ?_ ?_ <;> intro hc hq <;> try (exfalso; omega))|fail)
       have hvN : v = p.types.length := by omega
       subst hvN
       have hw3 : Dy (nI p.types (aB p) j (iW p.types.length R1 j)) (iW p.types.length R2 ((aB p)[j]!.next[kk]!).toNat) (nJ p.types (aB p) j (jK p.types.length R1 j)) (jK p.types.length R2 ((aB p)[j]!.next[kk]!).toNat) = false := by assumption
       (apply aY (kk + 1,_,true);focus (refine Le.renF0 [(0,0),(2,2)] (R := ?qA3) (hF := ?qF3) (hz := ?qz3) (hm := ?qm3) (hn := ?qn3) (h1 := ?q13) (h2 := ?q23);(case qF3 => (repeat' (first|exact FamR.here|(apply FamR.cons;focus rfl))));(case qz3 => (rfl));(case qm3 => rfl);(case qn3 => decide);all_goals (repeat' (first|exact trivial|refine And.intro ⟨_,rfl,?_⟩ ?_|refine And.intro ⟨_,_,rfl,rfl,?_⟩ ?_|exact RnL.purI inferInstance|exact RnV.purI inferInstance|exact RnV.optr rfl|exact RnV.imm (n0 (M := (aB p).length) (Nat.le_refl _) (by show aS + (xQ _ _ _ _ _ _).length = _; rw [eF,hl2]))))))
       ·exact ⟨(by show kk + 1 ≤ (aB p)[j]!.next.length;omega),hS2.hit w (DF j (kk + 1)) hS1.d hjn hkn hw3,fun h => (by cases h)⟩
       ·show (aB p)[j]!.next.length - (kk + 1) < (aB p)[j]!.next.length - kk;omega
     ·(apply aY (kk + 1, R2, c2); focus (refine Le.renF0 [(0, 0), (2, 2)] (R := ?qA4) (hF := ?qF4) (hz := ?qz4) (hm := ?qm4) (hn := ?qn4) (h1 := ?q14) (h2 := ?q24); (case qF4 => (repeat' (first | exact FamR.here | (apply FamR.cons; focus rfl)))); (case qz4 => (rfl)); (case qm4 => rfl); (case qn4 => decide); all_goals (repeat' (first | exact trivial | refine And.intro ⟨_, rfl, ?_⟩ ?_ | refine And.intro ⟨_, _, rfl, rfl, ?_⟩ ?_ | exact RnL.purI inferInstance | exact RnV.purI inferInstance | exact RnV.optr rfl | exact RnV.imm (n0 (M := (aB p).length) (Nat.le_refl _) (by show aS + R2.length = _; rw [hl2]))))))
      ·refine ⟨(by show kk + 1 ≤ (aB p)[j]!.next.length;omega),hS2.skip (i := j) (k := kk) hc2 (by assumption) (fun i' k' _ _ hd => by unfold DF at hd ⊢; omega),hc2⟩
      ·show (aB p)[j]!.next.length - (kk + 1) < (aB p)[j]!.next.length - kk;omega
    ·repeat' (first | refine aD ?_ | (refine aK ?_ ?_ <;> intro hc hq <;> try (exfalso; omega))|fail)
     (apply aY (j + 1,R2,c2);focus (refine Le.renF0 [(0,0)] (R := ?qA5) (hF := ?qF5) (hz := ?qz5) (hm := ?qm5) (hn := ?qn5) (h1 := ?q15) (h2 := ?q25);(case qF5 => (repeat' (first|exact FamR.here|(apply FamR.cons;focus rfl))));(case qz5 => (rfl));(case qm5 => rfl);(case qn5 => decide);all_goals (repeat' (first|exact trivial|refine And.intro ⟨_,rfl,?_⟩ ?_|refine And.intro ⟨_,_,rfl,rfl,?_⟩ ?_|exact RnL.purI inferInstance|exact RnV.purI inferInstance|exact RnV.optr rfl|exact RnV.imm (n0 (M := (aB p).length) (Nat.le_refl _) (by show aS + R2.length = _; rw [hl2]))))))
     ·refine ⟨(by show j + 1 ≤ (aB p).length; omega), hS2.mono fun i' k' _ hk' hd => ?_⟩
      unfold DF at hd ⊢
      by_cases e : i' = j
      ·subst e;omega
      ·omega
     ·show (aB p).length - (j + 1) < (aB p).length - j;omega
   ·repeat' (first | refine aD ?_ | (refine aK ?_ ?_ <;> intro hc hq <;> try (exfalso; omega))|fail)
    (apply aY (R1,c1);focus (refine Le.renF0 [(0,0)] (R := ?qA6) (hF := ?qF6) (hz := ?qz6) (hm := ?qm6) (hn := ?qn6) (h1 := ?q16) (h2 := ?q26);(case qF6 => (repeat' (first|exact FamR.here|(apply FamR.cons;focus rfl))));(case qz6 => (rfl));(case qm6 => rfl);(case qn6 => decide);all_goals (repeat' (first|exact trivial|refine And.intro ⟨_,rfl,?_⟩ ?_|refine And.intro ⟨_,_,rfl,rfl,?_⟩ ?_|exact RnL.purI inferInstance|exact RnV.purI inferInstance|exact RnV.optr rfl|exact RnV.imm (n0 (M := (aB p).length) (Nat.le_refl _) (by show aS + R1.length = _; rw [hl1]))))))
    ·exact (hS1.fin (by omega)).1
    ·exact (hS1.fin (by omega)).2
instance (s : List (List Bool) × List Bool) : Pur (Lk s):=⟨by show ((sl fQ s.1).pur && ((sl cB s.2).pur && true)) = true;rw [a7,a7]; rfl⟩
def JW (ts : List Int) (pts : List Pnt) (Aa : List Nat) (i k : Nat) : List Iss := ((List.range k).filter (CY ts pts Aa i)).map (fun (v : Nat) => ⟨i,1,v⟩)
def Ks (pts : List Pnt) (cf : List Bool) (i k : Nat) : List Iss := ((List.range k).filter (fun (l : Nat) => cf[l]!)).map (fun (l : Nat) => ⟨i,GP pts l,l⟩)
theorem H4 {ts:List Int}{pts:List Pnt}{Aa:List Nat}{i k:Nat}(h:CY ts pts Aa i k = true):JW ts pts Aa i (k + 1) = JW ts pts Aa i k ++ [⟨i,1,k⟩]:=by
 unfold JW;rw [gR,if_pos h,List.map_append]; rfl
theorem yA {ts:List Int}{pts:List Pnt}{Aa:List Nat}{i k:Nat}(h:CY ts pts Aa i k = false):JW ts pts Aa i (k + 1) = JW ts pts Aa i k:=by
 unfold JW;rw [gR,if_neg (by rw [h]; decide),List.append_nil]
theorem BD {pts:List Pnt}{cf:List Bool}{i k:Nat}(h:cf[k]! = true):Ks pts cf i (k + 1) = Ks pts cf i k ++ [⟨i,GP pts k,k⟩]:=by
 unfold Ks;rw [gR,if_pos h,List.map_append]; rfl
theorem Ee {pts:List Pnt}{cf:List Bool}{i k:Nat}(h:cf[k]! = false):Ks pts cf i (k + 1) = Ks pts cf i k:=by
 unfold Ks;rw [gR,if_neg (by rw [h]; decide),List.append_nil]
theorem CL (p:Prg) (f:Flows p.types (aB p)) (hs:aN p.body ≤ 1048576) (w:WG p.types (aB p)) (hr:Rch (aB p)):PC Tryz.prog 52 [bU p,sl fQ (c8 p.types.length (aB p).length f.Al)] (fun r => r = sl eV f.iss):=by
 have hpl := w.pl
 have hp0 := w.p0
 have htl := w.tl
 have hfa := oP p true f.Aa hs w hr (by unfold qX;exact f.ga)
 have hfm := oP p false f.Am hs w hr (by unfold qX;exact f.gm)
 have hfl := y7 p f.Af f.Ap hs w f.gf f.gp
 have hra := fJ p.types.length (aB p).length f.Aa
 have hrm := fJ p.types.length (aB p).length f.Am
 have hrl := fJ p.types.length (aB p).length f.Al
 have hfll : ((List.range (aB p).length).map (gH p.types.length (aB p).length f.Af f.Ap)).length = (aB p).length := by simp
 refine aC Tryz.func52 Tryz.ntmps52 ?_
 repeat' (first|(apply aF;first|(apply aA (k := 23);rfl;exact dD p hs;exact Pur.pf;rfl)|(apply aA (k := 89) (d := 20);rfl;exact hfa;exact Pur.pf;rfl)|(apply aA (k := 89) (d := 22);rfl;exact hfm;exact Pur.pf;rfl)|(apply aA (k := 82);rfl;exact hfl;exact Pur.pf;rfl))|refine aD ?_|fail)
 refine aI (σ := Nat × List Iss × Nat) [1,2,6,7,8,9] [0] (fun s => [(10,iv (s.1 : Int)),(5,.own 1 0 s.2.2 3)]) (fun s => [(1,some (flat eV s.2.1))]) (fun s => s.1 ≤ (aB p).length ∧ s.2.1 = mJ p.types (aB p) f.Aa f.Am f.Al f.Af f.Ap s.1 ∧ s.2.2 = s.2.1.length ∧ s.2.2 ≤ 67 * s.1) (fun s => (aB p).length - s.1) (0,[],0) ⟨Nat.zero_le _,rfl,rfl,Nat.le_refl _⟩ ?_
 rintro ⟨i,L,m⟩ ⟨hi,hL,hm,hmb⟩
 dsimp only at hi hL hm hmb
 try dsimp only
 by_cases hin : i < (aB p).length
 ·repeat' (first | refine aD ?_ | (refine aK ?_ ?_ <;> intro hc hq <;> try (exfalso; omega))|fail)
  refine aI (σ := Nat × List Iss × Nat) [1,2,6,7,8,9,10] [0] (fun s => [(11,iv (s.1 : Int)),(5,.own 1 0 s.2.2 3)]) (fun s => [(1,some (flat eV s.2.1))]) (fun s => s.1 ≤ p.types.length ∧ s.2.1 = L ++ JW p.types (aB p) f.Aa i s.1 ∧ s.2.2 = s.2.1.length ∧ s.2.2 ≤ 67 * i + s.1) (fun s => p.types.length - s.1) (0,L,m) ⟨Nat.zero_le _,(List.append_nil L).symm,hm,hmb⟩ ?_
  rintro ⟨v,L2,m2⟩ ⟨hv,hL2,hm2,hmb2⟩
  dsimp only at hv hL2 hm2 hmb2
  try dsimp only
  by_cases hvn : v < p.types.length
  ·have hga := lJ p.types.length (aB p).length f.Aa i v hin hvn
   have hgl : (c8 p.types.length (aB p).length f.Aa)[i]!.length = p.types.length := by rw [fL _ _ _ _ hin]; simp
   repeat' (first|(apply aF;(apply aA (k := 90);rfl;(apply jW <;> (omega));exact Pur.pf;rfl))|refine aD ?_|(refine aK ?_ ?_ <;> intro hc hq <;> try (exfalso;omega))|(refine bR ?_ ?_ <;> intro hg hq <;> try (exfalso;omega))|refine bT ?_|fail)
   ·(refine aY (v + 1, L2 ++ [⟨i, 1, v⟩], m2 + 1) (Le.renA [(0, 0), (1, 3)]) ?_ ?_)
    ·have hu : CY p.types (aB p) f.Aa i v = true := by
      unfold CY;rw [← hga,decide_eq_false (by assumption),(by assumption : (c8 p.types.length (aB p).length f.Aa)[i]![v]! = false)]; rfl
     exact ⟨(by show v + 1 ≤ p.types.length;omega),(by show L2 ++ [⟨i,1,v⟩] = _; rw [hL2,List.append_assoc,← H4 hu]),(by show m2 + 1 = (L2 ++ [_]).length;rw [List.length_append,List.length_singleton,hm2]),(by show m2 + 1 ≤ 67 * i + (v + 1);omega)⟩
    ·show p.types.length - (v + 1) < p.types.length - v;omega
   ·(refine aY (v + 1, L2, m2) (Le.renA [(0, 0), (1, 1)]) ?_ ?_)
    ·have hu : CY p.types (aB p) f.Aa i v = false := by
      unfold CY;rw [← hga,(by assumption : (c8 p.types.length (aB p).length f.Aa)[i]![v]! = true)]; simp
     exact ⟨(by show v + 1 ≤ p.types.length;omega),(by show L2 = _; rw [yA hu]; exact hL2),hm2,(by show m2 ≤ 67 * i + (v + 1);omega)⟩
    ·show p.types.length - (v + 1) < p.types.length - v;omega
   ·(refine aY (v + 1, L2, m2) (Le.renA [(0, 0), (1, 1)]) ?_ ?_)
    ·have hu : CY p.types (aB p) f.Aa i v = false := by
      unfold CY;rw [decide_eq_true (by assumption)]; rfl
     exact ⟨(by show v + 1 ≤ p.types.length;omega),(by show L2 = _; rw [yA hu]; exact hL2),hm2,(by show m2 ≤ 67 * i + (v + 1);omega)⟩
    ·show p.types.length - (v + 1) < p.types.length - v;omega
  ·have hvN : v = p.types.length := by omega
   have hset := w.set i hin
   have hy := w.y i hin
   have hfi : ((List.range (aB p).length).map (gH p.types.length (aB p).length f.Af f.Ap))[i]! = gH p.types.length (aB p).length f.Af f.Ap i := a6 _ _ _ hin
   have hgm : (c8 p.types.length (aB p).length f.Am)[i]!.length = p.types.length := by rw [fL _ _ _ _ hin]; simp
   have hgl : (c8 p.types.length (aB p).length f.Al)[i]!.length = p.types.length := by rw [fL _ _ _ _ hin]; simp
   have hf2 : (gH p.types.length (aB p).length f.Af f.Ap i).2.length = (aB p).length := by simp [gH]
   have hf1 : (gH p.types.length (aB p).length f.Af f.Ap i).1.length = p.types.length := by simp [gH]
   have hf3 : ∀ v, v < p.types.length → (gH p.types.length (aB p).length f.Af f.Ap i).1[v]!.length = (gH p.types.length (aB p).length f.Af f.Ap i).2.length := fun v hv => by
    rw [hf2]; unfold gH;dsimp only;rw [a6 _ _ _ hv]; simp
   have hacc := vN p.types (aB p)[i]! (c8 p.types.length (aB p).length f.Am)[i]! htl hgm hset.1 hy
   have hlv := EY p.types (aB p)[i]! ((List.range (aB p).length).map (gH p.types.length (aB p).length f.Af f.Ap))[i]!.1 ((List.range (aB p).length).map (gH p.types.length (aB p).length f.Af f.Ap))[i]!.2 (c8 p.types.length (aB p).length f.Al)[i]! htl (by rw [hfi,hf2]; exact hpl) hgl (by rw [hfi]; exact hf1) (by rw [hfi]; exact hf3)
   have hlvl : (Cx p.types (aB p)[i]! ((List.range (aB p).length).map (gH p.types.length (aB p).length f.Af f.Ap))[i]!.1 (c8 p.types.length (aB p).length f.Al)[i]! ((List.range (aB p).length).map (gH p.types.length (aB p).length f.Af f.Ap))[i]!.2.length).length = (aB p).length := by unfold Cx;rw [List.length_map,List.length_range,hfi,hf2]
   have hcn := sC (aB p) (hZ p.types (aB p)[i]! (c8 p.types.length (aB p).length f.Am)[i]![(aP (aB p)[i]!).toNat]!) ((List.range (aB p).length).map (gH p.types.length (aB p).length f.Af f.Ap))[i]!.1 ((List.range (aB p).length).map (gH p.types.length (aB p).length f.Af f.Ap))[i]!.2 (Cx p.types (aB p)[i]! ((List.range (aB p).length).map (gH p.types.length (aB p).length f.Af f.Ap))[i]!.1 (c8 p.types.length (aB p).length f.Al)[i]! ((List.range (aB p).length).map (gH p.types.length (aB p).length f.Af f.Ap))[i]!.2.length) hpl (by have := y5 p.types (aB p)[i]! (c8 p.types.length (aB p).length f.Am)[i]![(aP (aB p)[i]!).toNat]!; omega) (by rw [hfi]; exact hf2) hlvl
   have hcf : Jq (aB p) (hZ p.types (aB p)[i]! (c8 p.types.length (aB p).length f.Am)[i]![(aP (aB p)[i]!).toNat]!) ((List.range (aB p).length).map (gH p.types.length (aB p).length f.Af f.Ap))[i]!.2 (Cx p.types (aB p)[i]! ((List.range (aB p).length).map (gH p.types.length (aB p).length f.Af f.Ap))[i]!.1 (c8 p.types.length (aB p).length f.Al)[i]! ((List.range (aB p).length).map (gH p.types.length (aB p).length f.Af f.Ap))[i]!.2.length) = GL p.types (aB p) f.Am f.Al f.Af f.Ap i := by
    rw [hfi,hf2]; rfl
   have hcl : (GL p.types (aB p) f.Am f.Al f.Af f.Ap i).length = (aB p).length := by unfold GL;rw [uV]
   repeat' (first|(apply aF;first|(apply aA (k := 91);rfl;exact hacc;exact Pur.pf;rfl)|(apply aA (k := 93);rfl;exact hlv;exact Pur.pf;rfl)|(apply aA (k := 92);rfl;exact hcn;exact Pur.pf;rfl)|(with_reducible apply bW (d := 14)))|refine aD ?_|(refine aK ?_ ?_ <;> intro hc hq <;> try (exfalso;omega))|refine bT ?_|fail)
   refine dQ ?_
   rw [hcf]
   repeat' (first|refine aD ?_|fail)
   refine aI (σ := Nat × List Iss × Nat) [1,2,6,7,8,9,10,13] [0] (fun s => [(14,iv (s.1 : Int)),(5,.own 1 0 s.2.2 3)]) (fun s => [(1,some (flat eV s.2.1))]) (fun s => s.1 ≤ (aB p).length ∧ s.2.1 = L2 ++ Ks (aB p) (GL p.types (aB p) f.Am f.Al f.Af f.Ap i) i s.1 ∧ s.2.2 = s.2.1.length ∧ s.2.2 ≤ 67 * i + 6 + s.1) (fun s => (aB p).length - s.1) (0,L2,m2) ⟨Nat.zero_le _,(List.append_nil L2).symm,hm2,by show m2 ≤ 67 * i + 6 + 0;omega⟩ ?_
   rintro ⟨l,L3,m3⟩ ⟨hl,hL3,hm3,hmb3⟩
   dsimp only at hl hL3 hm3 hmb3
   try dsimp only
   by_cases hln : l < (aB p).length
   ·repeat' (first | refine aD ?_ | (refine aK ?_ ?_ <;> intro hc hq <;> try (exfalso; omega))|fail)
    ·(refine aY (l + 1, L3, m3) (Le.renA [(0, 0), (1, 1)]) ?_ ?_)
     ·exact ⟨(by show l + 1 ≤ (aB p).length;omega),(by show L3 = _; rw [Ee (by assumption)]; exact hL3),hm3,(by show m3 ≤ 67 * i + 6 + (l + 1);omega)⟩
     ·show (aB p).length - (l + 1) < (aB p).length - l;omega
    ·(refine aY (l + 1, L3 ++ [⟨i, 3, l⟩], m3 + 1) (Le.renA [(0, 0), (1, 3)]) ?_ ?_)
     ·have hk : GP (aB p) l = 3 := by unfold GP; rw [if_pos (by assumption)]
      exact ⟨(by show l + 1 ≤ (aB p).length;omega),(by show L3 ++ [⟨i,3,l⟩] = _; rw [hL3,List.append_assoc,← hk,← BD (by assumption)]),(by show m3 + 1 = (L3 ++ [_]).length;rw [List.length_append,List.length_singleton,hm3]),(by show m3 + 1 ≤ 67 * i + 6 + (l + 1);omega)⟩
     ·show (aB p).length - (l + 1) < (aB p).length - l;omega
    ·(refine aY (l + 1, L3 ++ [⟨i, 2, l⟩], m3 + 1) (Le.renA [(0, 0), (1, 3)]) ?_ ?_)
     ·have hk : GP (aB p) l = 2 := by unfold GP; rw [if_neg (by assumption)]
      exact ⟨(by show l + 1 ≤ (aB p).length;omega),(by show L3 ++ [⟨i,2,l⟩] = _; rw [hL3,List.append_assoc,← hk,← BD (by assumption)]),(by show m3 + 1 = (L3 ++ [_]).length;rw [List.length_append,List.length_singleton,hm3]),(by show m3 + 1 ≤ 67 * i + 6 + (l + 1);omega)⟩
     ·show (aB p).length - (l + 1) < (aB p).length - l;omega
   ·repeat' (first | refine aD ?_ | (refine aK ?_ ?_ <;> intro hc hq <;> try (exfalso; omega))|fail)
    (refine aY (i + 1,L3,m3) (Le.renA [(0,0),(1,1)]) ?_ ?_)
    ·refine ⟨(by show i + 1 ≤ (aB p).length; omega), ?_, hm3, (by show m3 ≤ 67 * (i + 1); omega)⟩
     show L3 = mJ p.types (aB p) f.Aa f.Am f.Al f.Af f.Ap (i + 1)
     rw [k8,← Ag w f hin,hL3,hL2,hL,hvN,show l = (aB p).length by omega,List.append_assoc]
     rfl
    ·show (aB p).length - (i + 1) < (aB p).length - i;omega
 ·repeat' (first | refine aD ?_ | (refine aK ?_ ?_ <;> intro hc hq <;> try (exfalso; omega))|fail)
  have hiN : i = (aB p).length := by omega
  refine aT (Le.frzD (d := 4) (i := 1) rfl rfl) ?_
  refine aE rfl ⟨?_,(by (exact a7 _ _))⟩
  simp only [aO]
  rw [hm,hL,hiN]; rfl
theorem pJ (p:Prg) (f:Flows p.types (aB p)) (hl:p.types.length ≤ 1048576) (hs:aN p.body ≤ 1048576):PC Tryz.prog 22 [bU p] (fun r => r = sl eV (AF p f)):=by
 unfold AF
 cases hv : bH p
 ·have hval := kR p hl (by omega)
  rw [hv] at hval
  refine aC Tryz.func22 Tryz.ntmps22 ?_
  repeat' (first|(apply aF;first|(apply aA (k := 51);rfl;exact hval;exact Pur.pf;rfl)|(apply aL (t := _);rfl;rfl;rfl;(rfl);rfl;rfl))|refine aD ?_|fail)
  exact aE rfl ⟨rfl,rfl⟩
 ·have w := WG.of_valid hv
  have hr := Rch.of p
  have hval := kR p hl (by omega)
  rw [hv] at hval
  have hlv := EU p f.Al hs w f.gl
  have hck := CL p f hs w hr
  refine aC Tryz.func22 Tryz.ntmps22 ?_
  repeat' (first|(apply aF;first|(apply aA (k := 51);rfl;exact hval;exact Pur.pf;rfl)|(apply aA (k := 53);rfl;exact hlv;exact Pur.pf;rfl)|(apply aA (k := 52);rfl;exact hck;exact Pur.pf;rfl))|refine aD ?_|refine bT ?_|fail)
  exact aE rfl ⟨rfl,(by (exact a7 _ _))⟩
abbrev dK (bs : List UInt8) (p : Nat) : List AV := [sl cU bs,iv (p : Int)]
def I4 (bs : List UInt8) (q : Int) : Int := ((bs[(q % (bs.length : Int)).toNat]!).toNat : Int) * 131 + ((bs[((q * 7 + 3) % (bs.length : Int)).toNat]!).toNat : Int) * 1117 + q * 29 + q / (bs.length : Int) * 53
def aW (bs : List UInt8) (p : Nat) (n : Int) : Int :=
 if n < 1 then 0 else if (bs.length : Int) = 0 then 0 else
 if (p : Int) + 1 - 1 < (bs.length : Int) then ((bs[((p : Int) + 1 - 1).toNat]!).toNat : Int) % n
 else (((I4 bs ((p : Int) + 1 - 1)).toNat ^^^ (I4 bs ((p : Int) + 1 - 1) / 64).toNat : Nat) : Int) % n
theorem cQ (bs:List UInt8) (p:Nat) (n:Int):0 ≤ aW bs p n ∧ (aW bs p n < n ∨ n < 1 ∧ aW bs p n = 0):=by
 unfold aW
 split
 ·omega
 ·split
  ·omega
  ·split
   ·exact ⟨Int.emod_nonneg _ (by omega),.inl (Int.emod_lt_of_pos _ (by omega))⟩
   ·exact ⟨Int.emod_nonneg _ (by omega),.inl (Int.emod_lt_of_pos _ (by omega))⟩
def gJ (bs : List UInt8) (p : Nat) (xs : List Int) : Int := xs[(aW bs p (xs.length : Int)).toNat]!
class NumL (cs : List AV) (xs : outParam (List Int)) : Prop where h : cs = flat cI xs
instance NumL.nil : NumL [] []:=⟨rfl⟩
instance NumL.cons {n : Int} {cs : List AV} {xs : List Int} [h : NumL cs xs] : NumL (.v (.int .i64 n) :: cs) (n :: xs):=⟨by rw [h.h]; rfl⟩
theorem j4 {bs:List UInt8}{p:Nat}{n:Int}{x0 x1:Operand}{i0:Nat}(ha0:ev (lk tsl) x0 = some (.optr i0 0)) (ha1:ev (lk tsl) x1 = some (iv n)) (hH0:aR hsl i0 = some (dK bs p)) (hmc:MC Tryz.prog 38 [.optr 0 0,iv n] [(0,some (dK bs p))] 1 (fun _:Unit => True) (fun _ => iv (aW bs p n)) (fun _ => [(0,some (dK bs (p + 1)))])) (hM:Nat.ble (nidl + 0) aS = true) (hN:Nat.blt d N = true){md':Md}[hmd:MdA md (iA [x0,x1] ++ [.inr i0]) (List.map Sum.inr (List.map Prod.fst ([(i0,some (dK bs (p + 1)))]:List (Nat × Option (List AV)))) ++ [.inl d]) md'] (kk:RW Tryz.prog N all Q md' rest ⟨(d,iv (aW bs p n)) :: tsl,kB hsl [(i0,some (dK bs (p + 1)))],nidl + 0,z0⟩):RW Tryz.prog N all Q md (⟨some d,.call ⟨.value (.func 38),#[x0,x1],tys⟩,ty,pos,af,none⟩ :: rest) ⟨tsl,hsl,nidl,z0⟩:=by
 exact bQ (l := [x0,x1]) [i0] 1 [(i0,some (dK bs (p + 1)))] hmc (avs := [.optr i0 0,iv n]) (by simp only [evL,ha0,ha1]) rfl hM hN (md' := md') (hmd := hmd) kk
theorem Hh {bs:List UInt8}{p:Nat}{xs:List Int}{x0 x1:Operand}{i0:Nat}(ha0:ev (lk tsl) x0 = some (.optr i0 0)) (ha1:ev (lk tsl) x1 = some (sl cI xs)) (hH0:aR hsl i0 = some (dK bs p)) (hmc:MC Tryz.prog 70 [.optr 0 0,sl cI xs] [(0,some (dK bs p))] 1 (fun _:Unit => True) (fun _ => iv (gJ bs p xs)) (fun _ => [(0,some (dK bs (p + 1)))])) (hM:Nat.ble (nidl + 0) aS = true) (hN:Nat.blt d N = true){md':Md}[hmd:MdA md (iA [x0,x1] ++ [.inr i0]) (List.map Sum.inr (List.map Prod.fst ([(i0,some (dK bs (p + 1)))]:List (Nat × Option (List AV)))) ++ [.inl d]) md'] (kk:RW Tryz.prog N all Q md' rest ⟨(d,iv (gJ bs p xs)) :: tsl,kB hsl [(i0,some (dK bs (p + 1)))],nidl + 0,z0⟩):RW Tryz.prog N all Q md (⟨some d,.call ⟨.value (.func 70),#[x0,x1],tys⟩,ty,pos,af,none⟩ :: rest) ⟨tsl,hsl,nidl,z0⟩:=by
 exact bQ (l := [x0,x1]) [i0] 1 [(i0,some (dK bs (p + 1)))] hmc (avs := [.optr i0 0,sl cI xs]) (by simp only [evL,ha0,ha1]) rfl hM hN (md' := md') (hmd := hmd) kk
theorem F7 {bs:List UInt8}{p:Nat}{xs:List Int}{x0 x1:Operand}{i0 i1:Nat}(ha0:ev (lk tsl) x0 = some (.optr i0 0)) (ha1:ev (lk tsl) x1 = some (.own i1 0 xs.length 1)) (hH0:aR hsl i0 = some (dK bs p)) (hH1:aR hsl i1 = some (flat cI xs)) (hdd:Go.AL.distinct [i0,i1] = true) (hmc:MC Tryz.prog 70 [.optr 0 0,.own 1 0 xs.length 1] [(0,some (dK bs p)),(1,some (flat cI xs))] 2 (fun _:Unit => True) (fun _ => iv (gJ bs p xs)) (fun _ => [(0,some (dK bs (p + 1)))])) (hM:Nat.ble (nidl + 0) aS = true) (hN:Nat.blt d N = true){md':Md}[hmd:MdA md (iA [x0,x1] ++ [.inr i0,.inr i1]) (List.map Sum.inr (List.map Prod.fst ([(i0,some (dK bs (p + 1))),(i1,none)]:List (Nat × Option (List AV)))) ++ [.inl d]) md'] (kk:RW Tryz.prog N all Q md' rest ⟨(d,iv (gJ bs p xs)) :: tsl,kB hsl [(i0,some (dK bs (p + 1))),(i1,none)],nidl + 0,z0⟩):RW Tryz.prog N all Q md (⟨some d,.call ⟨.value (.func 70),#[x0,x1],tys⟩,ty,pos,af,none⟩ :: rest) ⟨tsl,hsl,nidl,z0⟩:=by
 exact bQ (l := [x0,x1]) [i0,i1] 2 [(i0,some (dK bs (p + 1))),(i1,none)] hmc (avs := [.optr i0 0,.own i1 0 xs.length 1]) (by simp only [evL,ha0,ha1]) hdd hM hN (md' := md') (hmd := hmd) kk
theorem mB (bs:List UInt8) (p:Nat) (n:Int) (hb:bs.length ≤ 2000) (hp:p ≤ 1048576) (hn0:0 ≤ n) (hn:n ≤ 1048576):MC Tryz.prog 38 [.optr 0 0,iv n] [(0,some (dK bs p))] 1 (fun _:Unit => True) (fun _ => iv (aW bs p n)) (fun _ => [(0,some (dK bs (p + 1)))]):=by
 have hdiv : 0 ≤ ((p : Int) + 1 - 1) / (bs.length : Int) ∧ ((p : Int) + 1 - 1) / (bs.length : Int) ≤ p + 1 - 1 := ⟨Int.ediv_nonneg (by omega) (by omega),Int.ediv_le_self _ (by omega)⟩
 refine bS Tryz.func38 Tryz.ntmps38 ?_
 repeat' (first|(apply aF;(apply GD;rfl;rfl;(case' kk => intro hbd)))|refine aD ?_|(refine aK ?_ ?_ <;> intro hc hq <;> try (exfalso;omega))|(refine bR ?_ ?_ <;> intro hg hq <;> try (exfalso;omega))|refine bT ?_|fail)
 all_goals (refine aE rfl ?_; refine bJ () trivial ?_ ⟨sE ?_,trivial⟩)
 all_goals first|rfl|skip
 all_goals simp only [aO,AV.v.injEq,Value.int.injEq,true_and,aW]
 ·rw [if_neg (by omega),if_pos (by omega)]
 ·rw [if_neg (by omega),if_neg (by omega),if_pos (by omega)]
 ·rw [if_neg (by omega),if_neg (by omega),if_neg (by omega)]; rfl
 ·rw [if_pos (by omega)]
theorem Kc (bs:List UInt8) (p:Nat) (xs:List Int) (hb:bs.length ≤ 2000) (hp:p ≤ 1048576) (h0:0 < xs.length) (hn:xs.length ≤ 1048576):MC Tryz.prog 70 [.optr 0 0,sl cI xs] [(0,some (dK bs p))] 1 (fun _:Unit => True) (fun _ => iv (gJ bs p xs)) (fun _ => [(0,some (dK bs (p + 1)))]):=by
 have hpf := cQ bs p xs.length
 refine bS Tryz.func70 Tryz.ntmps70 ?_
 repeat' (first|(apply aF;(apply j4;rfl;rfl;(rfl);(apply mB <;> (first|assumption|omega));rfl;rfl))|refine aD ?_|fail)
 (refine aE rfl ?_; refine bJ () trivial ?_ ⟨sE ?_,trivial⟩)
 ·rfl
 ·rfl
theorem Kx {Q:Exit → AS → Prop}{all:Array Oper}{rest:List Oper}{N:Nat}{tsl:List (Nat × AV)}{hsl:List (Nat × Option (List AV))}{nidl:Nat}{z0:Lo}{md:Md}{d:Nat}{ty:TypeId}{pos:String}{af:Array Edge}{tys:Array TypeId}
  {bs : List UInt8} {p m : Nat} {cs : List AV} {xs : List Int} {x0 x1 : Operand} {i0 : Nat} (ha0 : ev (lk tsl) x0 = some (.optr i0 0)) (ha1 : ev (lk tsl) x1 = some (.imm m cs)) (hcs : NumL cs xs) (hH0 : aR hsl i0 = some (dK bs p))
  (hm : m = xs.length) (hb : bs.length ≤ 2000) (hp : p ≤ 1048576) (h0 : 0 < xs.length) (hn : xs.length ≤ 1048576) (hM : Nat.ble (nidl + 0) aS = true) (hN : Nat.blt d N = true) {md' : Md}
  [hmd : MdA md (iA [x0,x1] ++ [.inr i0]) [.inr i0,.inl d] md']
  (kk : RW Tryz.prog N all Q md' rest ⟨(d,iv (gJ bs p xs)) :: tsl,(i0,some (dK bs (p + 1))) :: hsl,nidl + 0,z0⟩) : RW Tryz.prog N all Q md (⟨some d,.call ⟨.value (.func 70),#[x0,x1],tys⟩,ty,pos,af,none⟩ :: rest) ⟨tsl,hsl,nidl,z0⟩ := by
 have h := hcs.h
 subst hm h
 exact Hh ha0 ha1 hH0 (Kc bs p xs hb hp h0 hn) hM hN (hmd := hmd) kk
theorem G1 (bs:List UInt8) (p:Nat) (xs:List Int) (hb:bs.length ≤ 2000) (hp:p ≤ 1048576) (h0:0 < xs.length) (hn:xs.length ≤ 1048576):MC Tryz.prog 70 [.optr 0 0,.own 1 0 xs.length 1] [(0,some (dK bs p)),(1,some (flat cI xs))] 2 (fun _:Unit => True) (fun _ => iv (gJ bs p xs)) (fun _ => [(0,some (dK bs (p + 1)))]):=by
 have hpf := cQ bs p xs.length
 refine bS Tryz.func70 Tryz.ntmps70 ?_
 repeat' (first|(apply aF;(apply j4;rfl;rfl;(rfl);(apply mB <;> (first|assumption|omega));rfl;rfl))|refine aD ?_|fail)
 (refine aE rfl ?_; refine bJ () trivial ?_ ⟨sE ?_,trivial⟩)
 ·rfl
 ·rfl
theorem BP {Q:Exit → AS → Prop}{all:Array Oper}{rest:List Oper}{N:Nat}{tsl:List (Nat × AV)}{hsl:List (Nat × Option (List AV))}{nidl:Nat}{z0:Lo}{md:Md}{d:Nat}{ty:TypeId}{pos:String}{af:Array Edge}{tys:Array TypeId}
  {bs : List UInt8} {p m : Nat} {cs : List AV} {xs : List Int} {x0 x1 : Operand} {i0 i1 : Nat} (ha0 : ev (lk tsl) x0 = some (.optr i0 0)) (ha1 : ev (lk tsl) x1 = some (.own i1 0 m 1)) (hH0 : aR hsl i0 = some (dK bs p)) (hH1 : aR hsl i1 = some cs) (hcs : NumL cs xs)
  (hdd : Go.AL.distinct [i0,i1] = true) (hm : m = xs.length) (hb : bs.length ≤ 2000) (hp : p ≤ 1048576) (h0 : 0 < xs.length) (hn : xs.length ≤ 1048576) (hM : Nat.ble (nidl + 0) aS = true) (hN : Nat.blt d N = true) {md' : Md}
  [hmd : MdA md (iA [x0,x1] ++ [.inr i0,.inr i1]) [.inr i0,.inr i1,.inl d] md']
  (kk : RW Tryz.prog N all Q md' rest ⟨(d,iv (gJ bs p xs)) :: tsl,kB hsl [(i0,some (dK bs (p + 1))),(i1,none)],nidl + 0,z0⟩) : RW Tryz.prog N all Q md (⟨some d,.call ⟨.value (.func 70),#[x0,x1],tys⟩,ty,pos,af,none⟩ :: rest) ⟨tsl,hsl,nidl,z0⟩ := by
 have h := hcs.h
 subst hm h
 exact F7 ha0 ha1 hH0 hH1 hdd (G1 bs p xs hb hp h0 hn) hM hN (hmd := hmd) kk
theorem Kv (bs:List UInt8) (hb:bs.length ≤ 1048576):MC Tryz.prog 35 [sl cU bs] [] 0 (fun _:Unit => True) (fun _ => .optr 0 0) (fun _ => [(0,some (dK (bs.take 2000) 0))]):=by
 refine bS Tryz.func35 Tryz.ntmps35 ?_
 repeat' (first|refine aD ?_|(refine aK ?_ ?_ <;> intro hc hq <;> try (exfalso;omega))|fail)
 ·(refine aE rfl ?_; refine bJ () trivial ?_ ⟨sE ?_, trivial⟩)
  ·rfl
  ·rfl
 ·(refine aE rfl ?_; refine bJ () trivial ?_ ⟨sE ?_, trivial⟩)
  ·rfl
  ·rw [List.take_of_length_le (by omega)]; rfl
def st (op x y n : Int) : AL.Stmt := .mk op x y n [] []
def iF (bs : List UInt8) (p : Nat) : AL.Stmt × Nat :=
 let box := 1 + aW bs p 2
 let owner := gJ bs (p + 1) [1,2,1,4,5]
 let c := aW bs (p + 1 + 1) 11
 if c = 0 then (st 1 0 0 (aW bs (p + 1 + 1 + 1) 10),p + 4)
 else if c = 1 then (st 2 box 0 (aW bs (p + 1 + 1 + 1) 10),p + 4)
 else if c = 2 then (st 3 box (3 - box) 0,p + 3)
 else if c = 3 then (st 4 3 owner 0,p + 3)
 else if c = 4 ∨ c = 5 then (st 5 4 (gJ bs (p + 1 + 1 + 1) [1,2,1,5]) 0,p + 4)
 else if c = 6 then (st 6 0 (gJ bs (p + 1 + 1 + 1) [3,4,1,2,5]) 0,p + 4)
 else if c = 7 then (st 7 (gJ bs (p + 1 + 1 + 1) [4,1,2,5]) 0 0,p + 4)
 else if c = 8 then (st 8 box 0 0,p + 3)
 else (st 5 5 (gJ bs (p + 1 + 1 + 1) [4,1,2]) 0,p + 4)
def fS (one : Nat → AL.Stmt × Nat) (s : AL.Stmt) (p : Nat) : Nat → List AL.Stmt × Nat
 | 0 => ([s],p)
 | k + 1 => ((fS one s p k).1 ++ [(one (fS one s p k).2).1],(one (fS one s p k).2).2)
def sI (bs : List UInt8) : Nat → Nat → AL.Stmt × Nat
 | 0,p => iF bs p
 | d + 1, p =>
  let c := aW bs (p + 1 + 1) 11
  if c = 9 then
   let r := fS (sI bs d) (st 2 1 0 (aW bs (p + 1 + 1 + 1 + 1) 10)) (p + 1 + 1 + 1 + 1 + 1) (aW bs (p + 1 + 1 + 1) 3).toNat
   let e := iF bs r.2
   (.mk 9 0 0 0 r.1 [e.1],e.2)
  else if c = 10 then
   let a := iF bs (p + 1 + 1 + 1)
   let b := iF bs a.2
   (.mk 10 0 0 0 [a.1,b.1] [],b.2)
  else iF bs p
def dI (bs : List UInt8) (d : Int) (p : Nat) : AL.Stmt × Nat := sI bs d.toNat p
def cS (bs : List UInt8) (d n : Int) (p : Nat) : List AL.Stmt × Nat := fS (dI bs d) (st 2 1 0 (aW bs p 10)) (p + 1) n.toNat
theorem rE (bs:List UInt8) (p:Nat):(iF bs p).2 ≤ p + 4:=by
 unfold iF;dsimp only;repeat' split
 all_goals omega
theorem pL (bs:List UInt8) (p:Nat):bV (iF bs p).1 = 1:=by
 unfold iF st;dsimp only;repeat' split
 all_goals simp [bV,aN]
theorem vV {one:Nat → AL.Stmt × Nat}{c:Nat}(h:∀ p,(one p).2 ≤ p + c) (s:AL.Stmt) (p:Nat):∀ k,(fS one s p k).2 ≤ p + k * c
 | 0 => by simp [fS]
 | k + 1 => by
  have := vV h s p k
  have := h (fS one s p k).2
  simp only [fS,Nat.succ_mul]; omega
theorem vP {one:Nat → AL.Stmt × Nat}{c:Nat}(h:∀ p,bV (one p).1 ≤ c) (s:AL.Stmt) (p:Nat):∀ k,aN (fS one s p k).1 ≤ bV s + k * c
 | 0 => by simp [fS,aN]
 | k + 1 => by
  have := vP h s p k
  have := h (fS one s p k).2
  simp only [fS,Nat.succ_mul,eM,aN]; omega
def y1 : Nat → Nat
 | 0 => 4
 | d + 1 => 9 + 2 * y1 d
def Dk : Nat → Nat
 | 0 => 1
 | d + 1 => 3 + 2 * Dk d
theorem k3 (bs:List UInt8) (p:Nat):(aW bs p 3).toNat ≤ 2 := by have := cQ bs p 3;omega
theorem EP (bs:List UInt8):∀ d p,(sI bs d p).2 ≤ p + y1 d
 | 0,p => rE bs p
 | d + 1, p => by
  have h0 := rE bs p
  have h1 := vV (EP bs d) (st 2 1 0 (aW bs (p + 1 + 1 + 1 + 1) 10)) (p + 1 + 1 + 1 + 1 + 1) (aW bs (p + 1 + 1 + 1) 3).toNat
  have h2 := k3 bs (p + 1 + 1 + 1)
  have h3 : (aW bs (p + 1 + 1 + 1) 3).toNat * y1 d ≤ 2 * y1 d := Nat.mul_le_mul_right _ h2
  have h4 := rE bs (fS (sI bs d) (st 2 1 0 (aW bs (p + 1 + 1 + 1 + 1) 10)) (p + 1 + 1 + 1 + 1 + 1) (aW bs (p + 1 + 1 + 1) 3).toNat).2
  have h5 := rE bs (p + 1 + 1 + 1)
  have h6 := rE bs (iF bs (p + 1 + 1 + 1)).2
  have h7 : 1 ≤ y1 d := by cases d <;> simp only [y1] <;> omega
  simp only [sI,y1]
  split
  ·dsimp only;omega
  ·split
   ·dsimp only;omega
   ·omega
theorem FR (bs:List UInt8):∀ d p,bV (sI bs d p).1 ≤ Dk d
 | 0,p => by rw [sI,pL]; decide
 | d + 1, p => by
  have h0 := pL bs p
  have h1 := vP (FR bs d) (st 2 1 0 (aW bs (p + 1 + 1 + 1 + 1) 10)) (p + 1 + 1 + 1 + 1 + 1) (aW bs (p + 1 + 1 + 1) 3).toNat
  have h2 := k3 bs (p + 1 + 1 + 1)
  have h3 : (aW bs (p + 1 + 1 + 1) 3).toNat * Dk d ≤ 2 * Dk d := Nat.mul_le_mul_right _ h2
  have h4 := pL bs (fS (sI bs d) (st 2 1 0 (aW bs (p + 1 + 1 + 1 + 1) 10)) (p + 1 + 1 + 1 + 1 + 1) (aW bs (p + 1 + 1 + 1) 3).toNat).2
  have h5 := pL bs (p + 1 + 1 + 1)
  have h6 := pL bs (iF bs (p + 1 + 1 + 1)).2
  have h7 : bV (st 2 1 0 (aW bs (p + 1 + 1 + 1 + 1) 10)) = 1 := by simp [st,bV,aN]
  simp only [sI,Dk]
  split
  ·simp only [bV,aN]; omega
  ·split
   ·simp only [bV,aN]; omega
   ·omega
theorem E6 (bs:List UInt8){d:Int}(h:d ≤ 2) (p:Nat):(dI bs d p).2 ≤ p + 43:=by
 have h1 := EP bs d.toNat p
 have h2 : y1 d.toNat ≤ 43 := by
  have : d.toNat = 0 ∨ d.toNat = 1 ∨ d.toNat = 2 := by omega
  rcases this with h|h|h <;> rw [h] <;> decide
 exact Nat.le_trans h1 (by omega)
theorem Kn (bs:List UInt8){d:Int}(h:d ≤ 2) (p:Nat):bV (dI bs d p).1 ≤ 13:=by
 have h1 := FR bs d.toNat p
 have h2 : Dk d.toNat ≤ 13 := by
  have : d.toNat = 0 ∨ d.toNat = 1 ∨ d.toNat = 2 := by omega
  rcases this with h|h|h <;> rw [h] <;> decide
 exact Nat.le_trans h1 h2
theorem tG {one:Nat → AL.Stmt × Nat}(s:AL.Stmt) (p:Nat):∀ k,(fS one s p k).1.length = k + 1
 | 0 => rfl
 | k + 1 => by simp only [fS,List.length_append,tG s p k,List.length_cons,List.length_nil]
theorem Dt (bs:List UInt8) (d:Int) (n p:Nat):(cS bs d (n:Int) p).1.length = n + 1 := tG _ _ _
theorem GS (bs:List UInt8) (d:Int) (k p:Nat):cS bs d ((k + 1:Nat):Int) p = ((cS bs d (k:Int) p).1 ++ [(dI bs d (cS bs d (k:Int) p).2).1],(dI bs d (cS bs d (k:Int) p).2).2) := rfl
theorem zE {xs:List AL.Stmt}{m:Nat}{s:AL.Stmt}(hm:m = xs.length):((flat aJ xs).drop 0).take (m * 6) ++ [iv s.op,iv s.x,iv s.y,iv s.n,sl aJ s.th,sl aJ s.el] = flat aJ (xs ++ [s]) := jE hm (cG s).symm
def Lz (s : AL.Stmt) (a : Int) : AL.Stmt := .mk a s.x s.y s.n s.th s.el
def uX (s : AL.Stmt) (a : Int) : AL.Stmt := .mk s.op a s.y s.n s.th s.el
def uY (s : AL.Stmt) (a : Int) : AL.Stmt := .mk s.op s.x a s.n s.th s.el
def uN (s : AL.Stmt) (a : Int) : AL.Stmt := .mk s.op s.x s.y a s.th s.el
theorem KJ {xs:List AL.Stmt}{k:Nat}{a:Int}(hk:k < xs.length):j8 (flat aJ xs) (0 + k * 6 + 0) [iv a] = flat aJ (xs.set k (Lz xs[k]! a)) := lH hk (by simp) (by rw [cG,cG]; rfl)
theorem KV {xs:List AL.Stmt}{k:Nat}{a:Int}(hk:k < xs.length):j8 (flat aJ xs) (0 + k * 6 + 1) [iv a] = flat aJ (xs.set k (uX xs[k]! a)) := lH hk (by simp) (by rw [cG,cG]; rfl)
theorem Lg {xs:List AL.Stmt}{k:Nat}{a:Int}(hk:k < xs.length):j8 (flat aJ xs) (0 + k * 6 + 2) [iv a] = flat aJ (xs.set k (uY xs[k]! a)) := lH hk (by simp) (by rw [cG,cG]; rfl)
theorem Lm {xs:List AL.Stmt}{k:Nat}{a:Int}(hk:k < xs.length):j8 (flat aJ xs) (0 + k * 6 + 3) [iv a] = flat aJ (xs.set k (uN xs[k]! a)) := lH hk (by simp) (by rw [cG,cG]; rfl)
theorem wK (bs:List UInt8){d:Int}(h:d ≤ 2) (n:Int) (p:Nat):(cS bs d n p).2 ≤ p + 1 + n.toNat * 43 := vV (E6 bs h) _ _ _
theorem ID (bs:List UInt8){d:Int}(h:d ≤ 2) (n:Int) (p:Nat):aN (cS bs d n p).1 ≤ 1 + n.toNat * 13:=by
 have h7 : bV (st 2 1 0 (aW bs p 10)) = 1 := by simp [st,bV,aN]
 have := vP (Kn bs h) (st 2 1 0 (aW bs p 10)) (p + 1) n.toNat
 rw [h7] at this
 exact this
theorem A6 (bs:List UInt8){d:Int}(h:0 < d) (p:Nat):dI bs d p = 
  let c := aW bs (p + 1 + 1) 11
  if c = 9 then
   let r := cS bs (d - 1) (aW bs (p + 1 + 1 + 1) 3) (p + 1 + 1 + 1 + 1)
   let e := dI bs 0 r.2
   (.mk 9 0 0 0 r.1 [e.1],e.2)
  else if c = 10 then
   let a := dI bs 0 (p + 1 + 1 + 1)
   let b := dI bs 0 a.2
   (.mk 10 0 0 0 [a.1,b.1] [],b.2)
  else iF bs p := by
 have : d.toNat = (d - 1).toNat + 1 := by omega
 simp only [dI,this,sI,cS]
 rfl
theorem K7 (s:AL.Stmt):flat aJ [s] = [iv s.op,iv s.x,iv s.y,iv s.n,sl aJ s.th,sl aJ s.el] := by simp [flat,cG]
theorem K5 (s t:AL.Stmt):flat aJ [s,t] = [iv s.op,iv s.x,iv s.y,iv s.n,sl aJ s.th,sl aJ s.el,iv t.op,iv t.x,iv t.y,iv t.n,sl aJ t.th,sl aJ t.el] := by simp [flat,cG]
theorem Km (bs:List UInt8){d:Int}(h0:0 ≤ d) (p:Nat) (h:¬ 0 < d ∨ (aW bs (p + 1 + 1) 11 ≠ 9 ∧ aW bs (p + 1 + 1) 11 ≠ 10)):dI bs d p = iF bs p:=by
 by_cases hd : 0 < d
 ·rw [A6 bs hd p]
  dsimp only
  rw [if_neg (by omega),if_neg (by omega)]
 ·have : d = 0 := by omega
  subst this;rfl
theorem KG (bs:List UInt8){d:Int}(hd:0 < d) (p:Nat) (h:aW bs (p + 1 + 1) 11 = 9):dI bs d p = (.mk 9 0 0 0 (cS bs (d - 1) (aW bs (p + 1 + 1 + 1) 3) (p + 1 + 1 + 1 + 1)).1 [(dI bs 0 (cS bs (d - 1) (aW bs (p + 1 + 1 + 1) 3) (p + 1 + 1 + 1 + 1)).2).1],(dI bs 0 (cS bs (d - 1) (aW bs (p + 1 + 1 + 1) 3) (p + 1 + 1 + 1 + 1)).2).2):=by
 rw [A6 bs hd p]
 dsimp only
 rw [if_pos h]
theorem G3 (bs:List UInt8){d:Int}(hd:0 < d) (p:Nat) (h:aW bs (p + 1 + 1) 11 = 10):dI bs d p = (.mk 10 0 0 0 [(dI bs 0 (p + 1 + 1 + 1)).1,(dI bs 0 (dI bs 0 (p + 1 + 1 + 1)).2).1] [],(dI bs 0 (dI bs 0 (p + 1 + 1 + 1)).2).2):=by
 rw [A6 bs hd p]
 dsimp only
 rw [if_neg (by omega),if_pos h]
theorem yB {bs:List UInt8}{p:Nat}{ts:List Int}{dp:Int}{x0 x1 x2:Operand}{i0:Nat}(ha0:ev (lk tsl) x0 = some (.optr i0 0)) (ha1:ev (lk tsl) x1 = some (sl cI ts)) (ha2:ev (lk tsl) x2 = some (iv dp)) (hH0:aR hsl i0 = some (dK bs p)) (hmc:MC Tryz.prog 113 [.optr 0 0,sl cI ts,iv dp] [(0,some (dK bs p))] 1 (fun _:Unit => True) (fun _ => dB (dI bs dp p).1) (fun _ => [(0,some (dK bs (dI bs dp p).2))])) (hM:Nat.ble (nidl + 0) aS = true) (hN:Nat.blt d N = true){md':Md}[hmd:MdA md (iA [x0,x1,x2] ++ [.inr i0]) (List.map Sum.inr (List.map Prod.fst ([(i0,some (dK bs (dI bs dp p).2))]:List (Nat × Option (List AV)))) ++ [.inl d]) md'] (kk:RW Tryz.prog N all Q md' rest ⟨(d,dB (dI bs dp p).1) :: tsl,kB hsl [(i0,some (dK bs (dI bs dp p).2))],nidl + 0,z0⟩):RW Tryz.prog N all Q md (⟨some d,.call ⟨.value (.func 113),#[x0,x1,x2],tys⟩,ty,pos,af,none⟩ :: rest) ⟨tsl,hsl,nidl,z0⟩:=by
 exact bQ (l := [x0,x1,x2]) [i0] 1 [(i0,some (dK bs (dI bs dp p).2))] hmc (avs := [.optr i0 0,sl cI ts,iv dp]) (by simp only [evL,ha0,ha1,ha2]) rfl hM hN (md' := md') (hmd := hmd) kk
theorem tF {bs:List UInt8}{p:Nat}{ts:List Int}{dp cn:Int}{x0 x1 x2 x3:Operand}{i0:Nat}(ha0:ev (lk tsl) x0 = some (.optr i0 0)) (ha1:ev (lk tsl) x1 = some (sl cI ts)) (ha2:ev (lk tsl) x2 = some (iv dp)) (ha3:ev (lk tsl) x3 = some (iv cn)) (hH0:aR hsl i0 = some (dK bs p)) (hmc:MC Tryz.prog 73 [.optr 0 0,sl cI ts,iv dp,iv cn] [(0,some (dK bs p))] 1 (fun _:Unit => True) (fun _ => sl aJ (cS bs dp cn p).1) (fun _ => [(0,some (dK bs (cS bs dp cn p).2))])) (hM:Nat.ble (nidl + 0) aS = true) (hN:Nat.blt d N = true){md':Md}[hmd:MdA md (iA [x0,x1,x2,x3] ++ [.inr i0]) (List.map Sum.inr (List.map Prod.fst ([(i0,some (dK bs (cS bs dp cn p).2))]:List (Nat × Option (List AV)))) ++ [.inl d]) md'] (kk:RW Tryz.prog N all Q md' rest ⟨(d,sl aJ (cS bs dp cn p).1) :: tsl,kB hsl [(i0,some (dK bs (cS bs dp cn p).2))],nidl + 0,z0⟩):RW Tryz.prog N all Q md (⟨some d,.call ⟨.value (.func 73),#[x0,x1,x2,x3],tys⟩,ty,pos,af,none⟩ :: rest) ⟨tsl,hsl,nidl,z0⟩:=by
 exact bQ (l := [x0,x1,x2,x3]) [i0] 1 [(i0,some (dK bs (cS bs dp cn p).2))] hmc (avs := [.optr i0 0,sl cI ts,iv dp,iv cn]) (by simp only [evL,ha0,ha1,ha2,ha3]) rfl hM hN (md' := md') (hmd := hmd) kk
attribute [local irreducible] aW
theorem zC (D:Int) (hD0:0 ≤ D) (hD:D ≤ 2) (l1One_ih:∀ bs p ts,0 < D → bs.length ≤ 2000 → p ≤ 900000 → ∀ dp:Int,dp = 0 → MC Tryz.prog 113 [.optr 0 0,sl cI ts,iv dp] [(0,some (dK bs p))] 1 (fun _:Unit => True) (fun _ => dB (dI bs dp p).1) (fun _ => [(0,some (dK bs (dI bs dp p).2))])) (l1Some_ih:∀ bs (p:Nat) ts cn,0 < D → bs.length ≤ 2000 → (p:Int) ≤ 850000 - 100000 * (D - 1) → 0 ≤ cn → cn ≤ 2 → ∀ dp:Int,dp = D - 1 → MC Tryz.prog 73 [.optr 0 0,sl cI ts,iv dp,iv cn] [(0,some (dK bs p))] 1 (fun _:Unit => True) (fun _ => sl aJ (cS bs dp cn p).1) (fun _ => [(0,some (dK bs (cS bs dp cn p).2))])) (bs:List UInt8) (p:Nat) (ts:List Int) (dp:Int) (hd:dp = D) (hb:bs.length ≤ 2000) (hp:(p:Int) ≤ 900000 - 100000 * D):MC Tryz.prog 113 [.optr 0 0,sl cI ts,iv dp] [(0,some (dK bs p))] 1 (fun _:Unit => True) (fun _ => dB (dI bs dp p).1) (fun _ => [(0,some (dK bs (dI bs dp p).2))]):=by
 subst hd
 have h0 := cQ bs p 2
 have h2 := cQ bs (p + 1 + 1) 11
 have h3 := cQ bs (p + 1 + 1 + 1) 3
 have h3' := k3 bs (p + 1 + 1 + 1)
 have h4 := E6 bs (d := 0) (by omega) (p + 1 + 1 + 1)
 have h5 := wK bs (d := dp - 1) (by omega) (aW bs (p + 1 + 1 + 1) 3) (p + 1 + 1 + 1 + 1)
 have h6 : (aW bs (p + 1 + 1 + 1) 3).toNat * 43 ≤ 2 * 43 := Nat.mul_le_mul_right _ h3'
 refine bS Tryz.func113 Tryz.ntmps113 ?_
 repeat' (first|(apply aF;first|(apply aL (t := _);rfl;rfl;rfl;(first|exact (rfl:_=some [_,_,_])|exact (rfl:_=some [_,_,_,_])|exact (rfl:_=some [_,_,_,_,_])|exact (rfl:_=some [_,_,_,_,_,_])|rfl);rfl;rfl)|(first|(apply j4;rfl;rfl;(rfl);(apply mB <;> (first|assumption|omega));rfl;rfl)|(apply Kx;rfl;rfl;infer_instance;rfl;(rfl);assumption;omega;(decide);(decide);rfl;rfl)|(apply tF;rfl;rfl;rfl;rfl;(rfl);(apply l1Some_ih <;> (first|assumption|omega));rfl;rfl)|(apply yB;rfl;rfl;rfl;(rfl);(apply l1One_ih <;> (first|assumption|omega));rfl;rfl)))|refine aD ?_|(refine aK ?_ ?_ <;> intro hc hq <;> try (exfalso;omega))|fail)
 all_goals try (refine aE rfl ?_; refine bJ () trivial ?_ ⟨sE ?_,trivial⟩)
 all_goals try (rw [Km bs hD0 p (by omega)]; unfold iF; dsimp only; repeat' split
                all_goals (first|rfl|(exfalso;omega));done)
 iterate 2
  rewrite [KG bs (d := dp) (by assumption) p (by assumption)]
  first|rfl|(refine Eq.trans (b := AV.agg [_,_,_,_,_,AV.imm 1 (flat aJ [_])]) ?_ rfl;rw [K7]; rfl)
 iterate 2
  rewrite [G3 bs (d := dp) (by omega) p (by omega)]
  first|rfl|(refine Eq.trans (b := AV.agg [_,_,_,_,AV.imm 2 (flat aJ [_,_]),_]) ?_ rfl;rw [K5]; rfl)
theorem tB (D:Int) (hD0:0 ≤ D) (hD:D ≤ 2) (l1One_ih:∀ bs (p:Nat) ts,bs.length ≤ 2000 → (p:Int) ≤ 900000 - 100000 * D → ∀ dp:Int,dp = D → MC Tryz.prog 113 [.optr 0 0,sl cI ts,iv dp] [(0,some (dK bs p))] 1 (fun _:Unit => True) (fun _ => dB (dI bs dp p).1) (fun _ => [(0,some (dK bs (dI bs dp p).2))])) (bs:List UInt8) (p:Nat) (ts:List Int) (dp:Int) (hd:dp = D) (cn:Int) (hb:bs.length ≤ 2000) (hp:(p:Int) ≤ 850000 - 100000 * D) (hc0:0 ≤ cn) (hc:cn ≤ 8):MC Tryz.prog 73 [.optr 0 0,sl cI ts,iv dp,iv cn] [(0,some (dK bs p))] 1 (fun _:Unit => True) (fun _ => sl aJ (cS bs dp cn p).1) (fun _ => [(0,some (dK bs (cS bs dp cn p).2))]):=by
 subst hd
 refine bS Tryz.func73 Tryz.ntmps73 ?_
 repeat' (first|(apply aF;(apply j4;rfl;rfl;(rfl);(apply mB <;> (first|assumption|omega));rfl;rfl))|refine aD ?_|fail)
 refine aI (σ := Nat × List AL.Stmt × Nat) [0,1,2,3] [] (fun k => [(10,iv (k.1 : Int)),(9,.own 1 0 (k.1 + 1) 6)]) (fun k => [(0,some (dK bs k.2.2)),(1,some (flat aJ k.2.1))]) (fun k => (k.1 : Int) ≤ cn ∧ k.2 = cS bs dp (k.1 : Int) p) (fun k => cn.toNat - k.1) (0,[st 2 1 0 (aW bs p 10)],p + 1) ⟨by omega,rfl⟩ ?_
 rintro ⟨k,xs,q⟩ ⟨hk,hse⟩
 dsimp only at hk hse ⊢
 have hp2 := wK bs (d := dp) (by omega) (k : Int) p
 have hkk : (k : Int).toNat * 43 ≤ 8 * 43 := Nat.mul_le_mul_right _ (by omega)
 have hln := Dt bs dp k p
 rw [← hse] at hp2 hln
 dsimp only at hp2 hln
 repeat' (first|(apply aF;first|(apply aL (t := _);rfl;rfl;rfl;(exact (rfl:_=some [_,_,_,_,_,_]));rfl;rfl)|(apply yB;rfl;rfl;rfl;(rfl);(apply l1One_ih <;> (first|assumption|omega));rfl;rfl))|refine aD ?_|(refine aK ?_ ?_ <;> intro hc hq <;> try (exfalso;omega))|fail)
 ·(refine aY (k + 1, _, _) (Le.renA [(1, 3)]) ?_ ?_)
  ·dsimp only
   refine ⟨by omega,?_⟩
   rw [GS,← hse]
  ·dsimp only;omega
 ·have hke : (k : Int) = cn := by omega
  rw [hke] at hse
  (refine aT (Le.frzD (d := 8) (i := 1) rfl rfl) ?_; refine aE rfl ?_)
  refine bJ () trivial ?_ ⟨sE ?_,trivial⟩
  ·rw [← hse]; show AV.imm (k + 1) (flat aJ xs) = AV.imm xs.length (flat aJ xs)
   rw [hln]
  ·rw [← hse]
theorem l6:∀ D:Nat,D ≤ 2 → (∀ bs (p:Nat) ts,bs.length ≤ 2000 → (p:Int) ≤ 900000 - 100000 * (D:Int) → ∀ dp:Int,dp = (D:Int) → MC Tryz.prog 113 [.optr 0 0,sl cI ts,iv dp] [(0,some (dK bs p))] 1 (fun _:Unit => True) (fun _ => dB (dI bs dp p).1) (fun _ => [(0,some (dK bs (dI bs dp p).2))])) ∧ (∀ bs (p:Nat) ts (cn:Int),bs.length ≤ 2000 → (p:Int) ≤ 850000 - 100000 * (D:Int) → 0 ≤ cn → cn ≤ 8 → ∀ dp:Int,dp = (D:Int) → MC Tryz.prog 73 [.optr 0 0,sl cI ts,iv dp,iv cn] [(0,some (dK bs p))] 1 (fun _:Unit => True) (fun _ => sl aJ (cS bs dp cn p).1) (fun _ => [(0,some (dK bs (cS bs dp cn p).2))]))
 | 0, _ => by
  have h1 : ∀ bs (p : Nat) ts, bs.length ≤ 2000 → (p : Int) ≤ 900000 - 100000 * ((0 : Nat) : Int) → ∀ dp : Int, dp = ((0 : Nat) : Int) → MC Tryz.prog 113 [.optr 0 0, sl cI ts, iv dp] [(0, some (dK bs p))] 1 (fun _ : Unit => True) (fun _ => dB (dI bs dp p).1) (fun _ => [(0, some (dK bs (dI bs dp p).2))]) :=
   fun bs p ts hb hp dp hd => zC ((0 : Nat) : Int) (by omega) (by omega) (fun _ _ _ h => by omega) (fun _ _ _ _ h => by omega) bs p ts dp hd hb hp
  exact ⟨h1,fun bs p ts cn hb hp h0 h8 dp hd => tB ((0 : Nat) : Int) (by omega) (by omega) h1 bs p ts dp hd cn hb hp h0 h8⟩
 | D + 1, hD => by
  have ih := l6 D (by omega)
  have i0 := l6 0 (by omega)
  have h1 : ∀ bs (p : Nat) ts, bs.length ≤ 2000 → (p : Int) ≤ 900000 - 100000 * ((D + 1 : Nat) : Int) → ∀ dp : Int, dp = ((D + 1 : Nat) : Int) → MC Tryz.prog 113 [.optr 0 0, sl cI ts, iv dp] [(0, some (dK bs p))] 1 (fun _ : Unit => True) (fun _ => dB (dI bs dp p).1) (fun _ => [(0, some (dK bs (dI bs dp p).2))]) :=
   fun bs p ts hb hp dp hd => zC ((D + 1 : Nat) : Int) (by omega) (by omega) (fun bs p ts _ hb hp dp hd => i0.1 bs p ts hb (by omega) dp (by omega)) (fun bs p ts cn _ hb hp h0 h2 dp hd => ih.2 bs p ts cn hb (by omega) h0 (by omega) dp (by omega)) bs p ts dp hd hb hp
  exact ⟨h1,fun bs p ts cn hb hp h0 h8 dp hd => tB ((D + 1 : Nat) : Int) (by omega) (by omega) h1 bs p ts dp hd cn hb hp h0 h8⟩
theorem Fu (bs:List UInt8) (p:Nat) (ts:List Int) (dp cn:Int) (hb:bs.length ≤ 2000) (hp:p ≤ 600000) (h0:0 ≤ cn) (h8:cn ≤ 8) (hd0:0 ≤ dp) (hd:dp ≤ 2):MC Tryz.prog 73 [.optr 0 0,sl cI ts,iv dp,iv cn] [(0,some (dK bs p))] 1 (fun _:Unit => True) (fun _ => sl aJ (cS bs dp cn p).1) (fun _ => [(0,some (dK bs (cS bs dp cn p).2))]) :=
 (l6 dp.toNat (by omega)).2 bs p ts cn hb (by omega) h0 h8 dp (by omega)
end Go.Proofs.YtgkalkgplcdnkaaGreatDoor
namespace Go.Proofs.YtgkalkgplcdnkaaGreatDoor
open Go.AL Go.RowKit
variable {N : Nat} {Q : Exit → AS → Prop} {all : Array Oper} {rest : List Oper} {tsl : List (Nat × AV)} {hsl : List (Nat × Option (List AV))} {nidl : Nat} {z0 : Lo} {md : Md} {d : Nat} {ty : TypeId} {pos : String} {af : Array Edge} {tys : Array TypeId}
theorem B9 {w:World}{bad:Nat → Prop}{ι:Pl}:∀ {cs cs':List AV},All2 (fun c c' => c' = c ∨ c' = nP c) cs cs' → ∀ {b β:Nat},RdC w bad ι cs b β → RdC w bad ι cs' b β
 | _,_,.nil,_,_,h => h
 | _, _, .cons h1 h2, b, β, h => by
  simp only [RdC] at h ⊢
  obtain ⟨⟨x,q1,q2,q3⟩,q4⟩ := h
  refine ⟨⟨x,q1,q2,?_⟩,B9 h2 q4⟩
  rcases h1 with rfl|rfl
  ·exact q3
  ·exact l4 q3
theorem Ct:∀ (l:List AV){a b:List AV},All2 (fun c c' => c' = c ∨ c' = nP c) a b → All2 (fun c c' => c' = c ∨ c' = nP c) (l ++ a) (l ++ b)
 | [],_,_,h => h
 | _ :: l,_,_,h => .cons (.inl rfl) (Ct l h)
theorem n6 {α:Type}{p q:α → Prop}{F:α → AS}{s s':AS}(L:Le s s') (h:∃ j,p j ∧ q j ∧ Le s' (F j)):∃ j,p j ∧ q j ∧ Le s (F j):=by
 obtain ⟨j,h1,h2,h3⟩ := h
 exact ⟨j,h1,h2,L.trans h3⟩
theorem Le.stmtN {ts:List (Nat × AV)}{hs:List (Nat × Option (List AV))}{n i:Nat}{z0:Lo}{xs:List AL.Stmt}(s:AL.Stmt){m:Nat}{a b:AV}(hm:m = xs.length)
  (ha : a = sl aJ s.th ∨ (a = .v (.slice none 0 0) ∧ s.th = [])) (hb : b = sl aJ s.el ∨ (b = .v (.slice none 0 0) ∧ s.el = []))
  (hi : aR hs i = some (((flat aJ xs).drop 0).take (m * 6) ++ List.take (1 * 6) [iv s.op,iv s.x,iv s.y,iv s.n,a,b])) : Le ⟨ts,hs,n,z0⟩ ⟨ts,(i,some (flat aJ (xs ++ [s]))) :: hs,n,z0⟩ := by
 have e : flat aJ (xs ++ [s]) = ((flat aJ xs).drop 0).take (m * 6) ++ [iv s.op,iv s.x,iv s.y,iv s.n,sl aJ s.th,sl aJ s.el] := (zE hm).symm
 have k : All2 (fun c c' => c' = c ∨ c' = nP c) (((flat aJ xs).drop 0).take (m * 6) ++ List.take (1 * 6) [iv s.op, iv s.x, iv s.y, iv s.n, a, b]) (flat aJ (xs ++ [s])) := by
  rw [e]
  refine Ct _ (.cons (.inl rfl) (.cons (.inl rfl) (.cons (.inl rfl) (.cons (.inl rfl) (.cons ?_ (.cons ?_ .nil))))))
  ·rcases ha with h | ⟨h, h2⟩
   ·exact .inl h.symm
   ·refine .inr ?_; rw [h2,h]; rfl
  ·rcases hb with h | ⟨h, h2⟩
   ·exact .inl h.symm
   ·refine .inr ?_; rw [h2,h]; rfl
 refine Le.cells hi ?_ fun w bad ι b β h => B9 k h
 rw [e]; simp
theorem Bi (mm:Nat) (hmm:mm ≤ 1048576) (copy_ih:∀ l,aN l < mm → PC Tryz.prog 110 [sl aJ l] (fun r => r = sl aJ l)) (l:List AL.Stmt) (hs:aN l ≤ mm):PC Tryz.prog 110 [sl aJ l] (fun r => r = sl aJ l):=by
 have hlen := cZ l
 refine aC Tryz.func110 Tryz.ntmps110 ?_
 repeat' (first|refine aD ?_|fail)
 refine aI (σ := Nat × List AL.Stmt) [0] [] (fun k => [(4,iv (k.1 : Int)),(3,.own 0 0 k.1 6)]) (fun k => [(0,some (flat aJ k.2))]) (fun k => k.1 ≤ l.length ∧ k.2 = l.take k.1) (fun k => l.length - k.1) (0,[]) ⟨by omega,rfl⟩ ?_
 rintro ⟨k,xs⟩ ⟨hk,hxs⟩
 dsimp only at hk hxs ⊢
 have hck := fA l k
 have hct := jT l[k]!
 have hln : xs.length = k := by rw [hxs,List.length_take]; omega
 repeat' (first|(apply aF;first|(apply aL (t := _);rfl;rfl;rfl;(exact (rfl:_=some [_,_,_,_,_,_]));rfl;rfl)|(apply aA (k := 110);rfl;(apply copy_ih <;> (omega));exact Pur.pf;rfl))|refine aD ?_|(refine aK ?_ ?_ <;> intro hc hq <;> try (exfalso;omega))|fail)
 ·(refine aY (k + 1, _) (Le.renA [(0, 3)]) ?_ ?_)
  ·exact ⟨by dsimp only;omega,by dsimp only;rw [hxs,bI l k (by omega)]⟩
  ·dsimp only;omega
 ·have hel : l[k]!.el = [] := List.eq_nil_of_length_eq_zero (by omega)
  refine n6 (Le.stmtN (i := 3) l[k]! hln.symm (.inl rfl) (.inr ⟨rfl,hel⟩) rfl) ?_
  (refine aY (k + 1,_) (Le.renA [(0,3)]) ?_ ?_)
  ·exact ⟨by dsimp only;omega,by dsimp only;rw [hxs,bI l k (by omega)]⟩
  ·dsimp only;omega
 ·have hth : l[k]!.th = [] := List.eq_nil_of_length_eq_zero (by omega)
  refine n6 (Le.stmtN (i := 3) l[k]! hln.symm (.inr ⟨rfl,hth⟩) (.inl rfl) rfl) ?_
  (refine aY (k + 1,_) (Le.renA [(0,3)]) ?_ ?_)
  ·exact ⟨by dsimp only;omega,by dsimp only;rw [hxs,bI l k (by omega)]⟩
  ·dsimp only;omega
 ·have hth : l[k]!.th = [] := List.eq_nil_of_length_eq_zero (by omega)
  have hel : l[k]!.el = [] := List.eq_nil_of_length_eq_zero (by omega)
  refine n6 (Le.stmtN (i := 3) l[k]! hln.symm (.inr ⟨rfl,hth⟩) (.inr ⟨rfl,hel⟩) rfl) ?_
  (refine aY (k + 1,_) (Le.renA [(0,3)]) ?_ ?_)
  ·exact ⟨by dsimp only;omega,by dsimp only;rw [hxs,bI l k (by omega)]⟩
  ·dsimp only;omega
 ·have hke : k = l.length := by omega
  (refine aT (Le.frzD (d := 2) (i := 0) rfl rfl) ?_; refine aE rfl ?_)
  refine ⟨?_,Pur.pf⟩
  rw [hxs,hke,List.take_length]; rfl
theorem Jk (l:List AL.Stmt) (hb:aN l ≤ 1048576):PC Tryz.prog 110 [sl aJ l] (fun r => r = sl aJ l):=by
 have key : ∀ m, m ≤ 1048576 → ∀ l, aN l ≤ m → PC Tryz.prog 110 [sl aJ l] (fun r => r = sl aJ l) := by
  intro m
  induction m with
  | zero => intro hm l hl;exact Bi 0 hm (fun l h => by omega) l hl
  | succ m ih => intro hm l hl;exact Bi (m + 1) hm (fun l h => ih (by omega) l (by omega)) l hl
 exact key (aN l) hb l (Nat.le_refl _)
theorem G2 (l:List AL.Stmt) (hs:aN l ≤ 1048576):MC Tryz.prog 110 [sl aJ l] [] 0 (fun _:Unit => True) (fun _ => .own 0 0 l.length 6) (fun _ => [(0,some (flat aJ l))]):=by
 have hlen := cZ l
 refine bS Tryz.func110 Tryz.ntmps110 ?_
 repeat' (first|refine aD ?_|fail)
 refine aI (σ := Nat × List AL.Stmt) [0] [] (fun k => [(4,iv (k.1 : Int)),(3,.own 0 0 k.1 6)]) (fun k => [(0,some (flat aJ k.2))]) (fun k => k.1 ≤ l.length ∧ k.2 = l.take k.1) (fun k => l.length - k.1) (0,[]) ⟨by omega,rfl⟩ ?_
 rintro ⟨k,xs⟩ ⟨hk,hxs⟩
 dsimp only at hk hxs ⊢
 have hck := fA l k
 have hct := jT l[k]!
 have hln : xs.length = k := by rw [hxs,List.length_take]; omega
 repeat' (first|(apply aF;first|(apply aL (t := _);rfl;rfl;rfl;(exact (rfl:_=some [_,_,_,_,_,_]));rfl;rfl)|(apply aA (k := 110);rfl;(apply Jk <;> (omega));exact Pur.pf;rfl))|refine aD ?_|(refine aK ?_ ?_ <;> intro hc hq <;> try (exfalso;omega))|fail)
 ·(refine aY (k + 1, _) (Le.renA [(0, 3)]) ?_ ?_)
  ·exact ⟨by dsimp only;omega,by dsimp only;rw [hxs,bI l k (by omega)]⟩
  ·dsimp only;omega
 ·have hel : l[k]!.el = [] := List.eq_nil_of_length_eq_zero (by omega)
  refine n6 (Le.stmtN (i := 3) l[k]! hln.symm (.inl rfl) (.inr ⟨rfl,hel⟩) rfl) ?_
  (refine aY (k + 1,_) (Le.renA [(0,3)]) ?_ ?_)
  ·exact ⟨by dsimp only;omega,by dsimp only;rw [hxs,bI l k (by omega)]⟩
  ·dsimp only;omega
 ·have hth : l[k]!.th = [] := List.eq_nil_of_length_eq_zero (by omega)
  refine n6 (Le.stmtN (i := 3) l[k]! hln.symm (.inr ⟨rfl,hth⟩) (.inl rfl) rfl) ?_
  (refine aY (k + 1,_) (Le.renA [(0,3)]) ?_ ?_)
  ·exact ⟨by dsimp only;omega,by dsimp only;rw [hxs,bI l k (by omega)]⟩
  ·dsimp only;omega
 ·have hth : l[k]!.th = [] := List.eq_nil_of_length_eq_zero (by omega)
  have hel : l[k]!.el = [] := List.eq_nil_of_length_eq_zero (by omega)
  refine n6 (Le.stmtN (i := 3) l[k]! hln.symm (.inr ⟨rfl,hth⟩) (.inr ⟨rfl,hel⟩) rfl) ?_
  (refine aY (k + 1,_) (Le.renA [(0,3)]) ?_ ?_)
  ·exact ⟨by dsimp only;omega,by dsimp only;rw [hxs,bI l k (by omega)]⟩
  ·dsimp only;omega
 ·have hke : k = l.length := by omega
  have hxl : xs = l := by rw [hxs,hke,List.take_length]
  subst hke
  refine aE rfl ?_
  refine bJ () trivial ?_ ⟨sE ?_,trivial⟩
  ·rfl
  ·rw [hxl]
theorem Eb {l:List AL.Stmt}{x0:Operand}(ha0:ev (lk tsl) x0 = some (sl aJ l)) (hmc:MC Tryz.prog 110 [sl aJ l] [] 0 (fun _:Unit => True) (fun _ => .own 0 0 l.length 6) (fun _ => [(0,some (flat aJ l))])) (hM:Nat.ble (nidl + 1) aS = true) (hN:Nat.blt d N = true){md':Md}[hmd:MdA md (iA [x0] ++ []) (List.map Sum.inr (List.map Prod.fst ([(nidl,some (flat aJ l))]:List (Nat × Option (List AV)))) ++ [.inl d]) md'] (kk:RW Tryz.prog N all Q md' rest ⟨(d,.own nidl 0 l.length 6) :: tsl,kB hsl [(nidl,some (flat aJ l))],nidl + 1,z0⟩):RW Tryz.prog N all Q md (⟨some d,.call ⟨.value (.func 110),#[x0],tys⟩,ty,pos,af,none⟩ :: rest) ⟨tsl,hsl,nidl,z0⟩:=by
 exact bQ (l := [x0]) [] 1 [(nidl,some (flat aJ l))] hmc (avs := [sl aJ l]) (by simp only [evL,ha0]) rfl hM hN (md' := md') (hmd := hmd) kk
theorem CP {q:Prg}{x0:Operand}(ha0:ev (lk tsl) x0 = some (bU q)) (hmc:MC Tryz.prog 69 [bU q] [] 0 (fun _:Unit => True) (fun _ => .agg [.own 3 0 q.types.length 1,.own 4 0 q.body.length 6]) (fun _ => [(3,some (flat cI q.types)),(4,some (flat aJ q.body))])) (hM:Nat.ble (nidl + 5) aS = true) (hN:Nat.blt d N = true){md':Md}[hmd:MdA md (iA [x0] ++ []) (List.map Sum.inr (List.map Prod.fst ([((nidl + 3),some (flat cI q.types)),((nidl + 4),some (flat aJ q.body))]:List (Nat × Option (List AV)))) ++ [.inl d]) md'] (kk:RW Tryz.prog N all Q md' rest ⟨(d,.agg [.own (nidl + 3) 0 q.types.length 1,.own (nidl + 4) 0 q.body.length 6]) :: tsl,kB hsl [((nidl + 3),some (flat cI q.types)),((nidl + 4),some (flat aJ q.body))],nidl + 5,z0⟩):RW Tryz.prog N all Q md (⟨some d,.call ⟨.value (.func 69),#[x0],tys⟩,ty,pos,af,none⟩ :: rest) ⟨tsl,hsl,nidl,z0⟩:=by
 exact bQ (l := [x0]) [] 5 [((nidl + 3),some (flat cI q.types)),((nidl + 4),some (flat aJ q.body))] hmc (avs := [bU q]) (by simp only [evL,ha0]) rfl hM hN (md' := md') (hmd := hmd) kk
theorem FY (q:Prg) (hs:aN q.body ≤ 1048576) (ht:q.types.length ≤ 1048576):MC Tryz.prog 69 [bU q] [] 0 (fun _:Unit => True) (fun _ => .agg [.own 3 0 q.types.length 1,.own 4 0 q.body.length 6]) (fun _ => [(3,some (flat cI q.types)),(4,some (flat aJ q.body))]):=by
 refine bS Tryz.func69 Tryz.ntmps69 ?_
 repeat' (first|(apply aF;(apply Eb;rfl;(apply G2;assumption);rfl;rfl))|refine aD ?_|refine bT ?_|fail)
 refine aE rfl ?_
 refine bJ () trivial ?_ ⟨sE ?_,sE ?_,trivial⟩
 ·show AV.agg [AV.own 3 0 (0 + q.types.length) 1, AV.own 4 0 q.body.length 6] = _
  rw [Nat.zero_add]
 ·rfl
 ·rfl
theorem FD (s:AL.Stmt) (a:Int):bV (Lz s a) = bV s := by simp [eT,Lz,AL.Stmt.th,AL.Stmt.el]
theorem IV (s:AL.Stmt) (a:Int):bV (uX s a) = bV s := by simp [eT,uX,AL.Stmt.th,AL.Stmt.el]
theorem GY (s:AL.Stmt) (a:Int):bV (uY s a) = bV s := by simp [eT,uY,AL.Stmt.th,AL.Stmt.el]
theorem Hm (s:AL.Stmt) (a:Int):bV (uN s a) = bV s := by simp [eT,uN,AL.Stmt.th,AL.Stmt.el]
theorem kU:∀ (xs:List AL.Stmt) (k:Nat) (y:AL.Stmt),k < xs.length → bV y = bV xs[k]! → aN (xs.set k y) = aN xs
 | [],k,y,h,_ => by simp at h
 | x :: xs,0,y,_,h => by simp only [List.set_cons_zero,aN]; simp only [List.getElem!_cons_zero] at h;omega
 | x :: xs, k + 1, y, h, h2 => by
  simp only [List.set_cons_succ,aN]
  rw [kU xs k y (by simpa using h) (by rw [h2]; simp only [List.getElem!_cons_succ])]
theorem yT (s:AL.Stmt):∀ k,aN (List.replicate k s) = k * bV s
 | 0 => by simp [aN]
 | k + 1 => by simp only [List.replicate_succ,aN,yT s k,Nat.succ_mul]; omega
theorem xR:∀ (xs:List AL.Stmt) (k:Nat),aN (xs.take k ++ xs.drop (k + 1)) ≤ aN xs
 | [],k => by simp [aN]
 | x :: xs,0 => by simp [aN]
 | x :: xs,k + 1 => by have := xR xs k;simp only [List.take_succ_cons,List.drop_succ_cons,List.cons_append,aN]; omega
theorem iD {T:Nat → Option AV}{x:Operand}{dd:Nat}{k:IntKind}{m:Int}(hx:ev T x = some (.v (.int k m))) (h:0 ≤ m):fD T (some x) dd = some m.toNat:=by
 simp only [fD,hx]; rw [if_pos h]
section
variable {P : Program} {N : Nat} {Q : Exit → AS → Prop} {all : Array Oper} {rest : List Oper} {ts : List (Nat × AV)} {hs : List (Nat × Option (List AV))} {n : Nat} {z0 : Lo} {md : Md}
variable {d : Nat} {ty : TypeId} {pos : String} {af : Array Edge}
theorem Bg {t el:TypeId}{x:Operand}{hi:Option Operand}{i o m e h:Nat}[ht:SlT P t el] [he:SzT P el e] (hx:ev (lk ts) x = some (.own i o m e))
  (hh : fD (lk ts) hi m = some h) (hb : h ≤ m) (hN : Nat.blt d N = true) {md' : Md} [hmd : MdA md (rO x ++ (rB none ++ rB hi)) [.inl d] md'] (kk : RW P N all Q md' rest ⟨(d,.own i o h e) :: ts,hs,n,z0⟩) :
  RW P N all Q md (⟨some d,.slice t x none hi none,ty,pos,af,none⟩ :: rest) ⟨ts,hs,n,z0⟩ :=
 pP (m := m) (l := 0) (h := h) hx rfl rfl hh (by simp [I5,hb]) hN (md' := md') (hmd := hmd) kk
end
theorem Im {hs:List (Nat × Option (List AV))}{xs:List AL.Stmt}{i k n:Nat}(hH:aR hs i = some (flat aJ xs)) (hn:n = xs.length - k):sCells (aR hs) 6 (nP (.own i (0 + k * 6) n 6)) = some (n,flat aJ (xs.drop k)):=by
 show ((aR hs i).bind fun cs => if n * 6 ≤ (cs.drop (0 + k * 6)).length then some (n,(cs.drop (0 + k * 6)).take (n * 6)) else none) = _
 rw [hH,Option.bind_some,Nat.zero_add]
 have h1 : (flat aJ xs).length = xs.length * 6 := aM aJ xs
 have h3 : (flat aJ xs).drop (k * 6) = flat aJ (xs.drop k) := by
  have h4 : flat aJ xs = flat aJ (xs.take k) ++ flat aJ (xs.drop k) := by rw [bY,List.take_append_drop]
  have h5 : (flat aJ (xs.take k)).length = (xs.take k).length * 6 := aM aJ _
  by_cases hk : k ≤ xs.length
  ·rw [h4,← show (flat aJ (xs.take k)).length = k * 6 from by rw [h5,List.length_take]; congr 1;omega,List.drop_left]
  ·rw [List.drop_of_length_le (by omega),List.drop_of_length_le (by omega)]; rfl
 rw [h3]
 have h2 : (flat aJ (xs.drop k)).length = (xs.length - k) * 6 := by rw [aM aJ (e := 6),List.length_drop]
 rw [if_pos (by omega),List.take_of_length_le (by omega)]
theorem Hq {xs ys:List AL.Stmt}{k:Nat}(hk:k ≤ xs.length):((flat aJ xs).drop 0).take (k * 6) ++ flat aJ ys = flat aJ (xs.take k ++ ys):=by
 rw [List.drop_zero,eN aJ (e := 6),bY]
theorem EH (bs:List UInt8) (p:Nat) (q:Prg) (hb:bs.length ≤ 2000) (hp:p ≤ 900000) (hs:aN q.body ≤ 10000) (ht:q.types.length ≤ 10000):MC Tryz.prog 36 [.optr 0 0,bU q] [(0,some (dK bs p))] 1 (fun x:Prg × Nat => aN x.1.body ≤ 32 * aN q.body ∧ x.1.types.length ≤ q.types.length + 1 ∧ x.2 ≤ p + 3) (fun x => bU x.1) (fun x => [(0,some (dK bs x.2))]):=by
 have hlen := cZ q.body
 have h0 := cQ bs p (q.body.length : Int)
 refine bS Tryz.func36 Tryz.ntmps36 ?_
 repeat' (first|(apply aF;(first|(apply j4;rfl;rfl;(rfl);(apply mB <;> (first|assumption|omega));rfl;rfl)|(apply BP;rfl;rfl;rfl;rfl;infer_instance;rfl;(rfl);assumption;omega;(decide);(decide);rfl;rfl)|(apply CP;rfl;(apply FY <;> (omega));rfl;rfl)))|refine aD ?_|(refine aK ?_ ?_ <;> intro hc hq <;> try (exfalso;omega))|refine bT ?_|fail)
 ·refine aT (Le.frzC (j := 2) (i := 6) [] rfl rfl (by decide)) ?_
  refine aT (Le.frzC (j := 2) (i := 7) [.imm _ _] rfl rfl (by decide)) ?_
  refine aE rfl ?_
  refine bJ ((⟨q.types,q.body⟩ : Prg),p) ?_ ?_ ⟨sE ?_,trivial⟩
  ·exact ⟨by dsimp only;omega,by dsimp only;omega,by dsimp only;omega⟩
  ·rfl
  ·rfl
 ·refine aT (Le.frzC (j := 2) (i := 6) [] rfl rfl (by decide)) ?_
  refine aT (Le.frzC (j := 2) (i := 7) [.imm _ _] rfl rfl (by decide)) ?_
  refine aE rfl ?_
  refine bJ ((⟨q.types,q.body.set (aW bs p (q.body.length : Int)).toNat (Lz q.body[(aW bs p (q.body.length : Int)).toNat]! (gJ bs (p + 1 + 1) [0,11,1,3,8]))⟩ : Prg),p + 1 + 1 + 1) ?_ ?_ ⟨sE ?_,trivial⟩
  ·refine ⟨?_,by dsimp only;omega,by dsimp only;omega⟩; dsimp only;rw [kU q.body (aW bs p (q.body.length : Int)).toNat _ (by omega) (by rw [FD])]; omega
  ·show _ = AV.agg [_,AV.imm (List.length (q.body.set _ _)) _]; rw [List.length_set]; rfl
  ·rfl
 ·refine aT (Le.frzC (j := 2) (i := 6) [] rfl rfl (by decide)) ?_
  refine aT (Le.frzC (j := 2) (i := 7) [.imm _ _] rfl rfl (by decide)) ?_
  refine aE rfl ?_
  refine bJ ((⟨q.types,q.body.set (aW bs p (q.body.length : Int)).toNat (uX q.body[(aW bs p (q.body.length : Int)).toNat]! (gJ bs (p + 1 + 1) [6,-1,0,1]))⟩ : Prg),p + 1 + 1 + 1) ?_ ?_ ⟨sE ?_,trivial⟩
  ·refine ⟨?_,by dsimp only;omega,by dsimp only;omega⟩; dsimp only;rw [kU q.body (aW bs p (q.body.length : Int)).toNat _ (by omega) (by rw [IV])]; omega
  ·show _ = AV.agg [_,AV.imm (List.length (q.body.set _ _)) _]; rw [List.length_set]; rfl
  ·rfl
 ·refine aT (Le.frzC (j := 2) (i := 6) [] rfl rfl (by decide)) ?_
  refine aT (Le.frzC (j := 2) (i := 7) [.imm _ _] rfl rfl (by decide)) ?_
  refine aE rfl ?_
  refine bJ ((⟨q.types,q.body.set (aW bs p (q.body.length : Int)).toNat (uY q.body[(aW bs p (q.body.length : Int)).toNat]! (gJ bs (p + 1 + 1) [6,-1,0,1]))⟩ : Prg),p + 1 + 1 + 1) ?_ ?_ ⟨sE ?_,trivial⟩
  ·refine ⟨?_,by dsimp only;omega,by dsimp only;omega⟩; dsimp only;rw [kU q.body (aW bs p (q.body.length : Int)).toNat _ (by omega) (by rw [GY])]; omega
  ·show _ = AV.agg [_,AV.imm (List.length (q.body.set _ _)) _]; rw [List.length_set]; rfl
  ·rfl
 ·refine aT (Le.frzC (j := 2) (i := 6) [] rfl rfl (by decide)) ?_
  refine aT (Le.frzC (j := 2) (i := 7) [.imm _ _] rfl rfl (by decide)) ?_
  refine aE rfl ?_
  refine bJ ((⟨q.types,q.body.set (aW bs p (q.body.length : Int)).toNat (uN q.body[(aW bs p (q.body.length : Int)).toNat]! (gJ bs (p + 1 + 1) [10,-1,5]))⟩ : Prg),p + 1 + 1 + 1) ?_ ?_ ⟨sE ?_,trivial⟩
  ·refine ⟨?_,by dsimp only;omega,by dsimp only;omega⟩; dsimp only;rw [kU q.body (aW bs p (q.body.length : Int)).toNat _ (by omega) (by rw [Hm])]; omega
  ·show _ = AV.agg [_,AV.imm (List.length (q.body.set _ _)) _]; rw [List.length_set]; rfl
  ·rfl
 ·refine aT (Le.frzC (j := 2) (i := 11) [] rfl rfl (by decide)) ?_
  refine aT (Le.frzC (j := 2) (i := 7) [.imm _ _] rfl rfl (by decide)) ?_
  refine aE rfl ?_
  refine bJ ((⟨q.types ++ [gJ bs (p + 1 + 1) [1,5,0,4]],q.body⟩ : Prg),p + 1 + 1 + 1) ?_ ?_ ⟨sE ?_,trivial⟩
  ·exact ⟨by dsimp only;omega,by simp,by dsimp only;omega⟩
  ·show _ = AV.agg [AV.imm (List.length (q.types ++ [_])) _,_]; rw [List.length_append]; rfl
  ·rfl
 ·refine aI (σ := Nat × List AL.Stmt × Nat) [4, 5] [6, 2, 0] (fun k => [(7, iv (k.1 : Int))]) (fun k => [(7, some (flat aJ k.2.1)), (8, some [.own 6 0 q.types.length 1, .own 7 0 k.2.2 6])]) (fun k => k.1 ≤ 31 ∧ k.2.1 = q.body ++ List.replicate k.1 q.body[0]! ∧ k.2.2 = k.2.1.length) (fun k => 31 - k.1) (0, q.body, q.body.length) ⟨by omega, by simp, rfl⟩ ?_
  rintro ⟨k,xs,m⟩ ⟨hk,hxs,hm⟩
  dsimp only at hk hxs hm ⊢
  have hln : 0 < xs.length := by rw [hxs,List.length_append]; omega
  have hl2 : xs.length = q.body.length + k := by rw [hxs,List.length_append,List.length_replicate]
  repeat' (first|refine aD ?_|(refine aK ?_ ?_ <;> intro hc hq <;> try (exfalso;omega))|refine bT ?_|fail)
  ·(refine aY (k + 1, _, _) (Le.renA [(7, 10), (8, 8), (6, 6), (2, 2)]) ?_ ?_)
   ·dsimp only
    refine ⟨by omega,?_,by simp [hm]⟩
    have e0 : xs[Int.toNat 0]! = q.body[0]! := by
     show xs[0]! = _
     rw [hxs,getElem!_pos _ _ (by rw [List.length_append]; omega),List.getElem_append_left (by omega),getElem!_pos _ _ (by omega)]
    rw [e0,hxs,List.replicate_succ',List.append_assoc]
   ·dsimp only;omega
  ·have hc0 : bV q.body[0]! ≤ aN q.body := fA q.body 0 (by omega)
   have hc1 : aN xs = aN q.body + k * bV q.body[0]! := by rw [hxs,eM,yT]
   have hc2 : k * bV q.body[0]! ≤ 31 * aN q.body := Nat.mul_le_mul hk hc0
   subst hm
   refine aT (Le.frzC (j := 2) (i := 6) [] rfl rfl (by decide)) ?_
   refine aT (Le.frzC (j := 2) (i := 7) [.imm _ _] rfl rfl (by decide)) ?_
   refine aE rfl ?_
   refine bJ ((⟨q.types,xs⟩ : Prg),p + 1 + 1) ?_ ?_ ⟨sE ?_,trivial⟩
   ·exact ⟨by dsimp only;omega,by dsimp only;omega,by dsimp only;omega⟩
   ·rfl
   ·rfl
 ·have hK : (aW bs p (q.body.length : Int) + 1).toNat = (aW bs p (q.body.length : Int)).toNat + 1 := by omega
  repeat' (first|(apply aF;first|(apply Bg;rfl;exact iD rfl (by omega);omega;rfl)|(apply j3;rfl;exact iD rfl (by omega);omega;rfl)|(apply cH;rfl;rfl;rfl;rfl;rfl;(rw [aM]; omega);exact Im rfl (by omega);omega;omega;exact Hq (by omega);rfl;rfl))|refine aD ?_|fail)
  refine aT (Le.frzC (j := 2) (i := 6) [] rfl rfl (by decide)) ?_
  refine aT (Le.frzC (j := 2) (i := 9) [.imm _ _] rfl rfl (by decide)) ?_
  refine aE rfl ?_
  refine bJ ((⟨q.types,q.body.take (aW bs p (q.body.length : Int)).toNat ++ q.body.drop (aW bs p (q.body.length : Int) + 1).toNat⟩ : Prg),p + 1 + 1) ?_ ?_ ⟨sE ?_,trivial⟩
  ·refine ⟨?_, by dsimp only; omega, by dsimp only; omega⟩
   dsimp only
   rw [hK]
   have := xR q.body (aW bs p (q.body.length : Int)).toNat
   omega
  ·show AV.agg [_, AV.imm _ _] = AV.agg [_, AV.imm (List.length (_ ++ _)) _]
   rw [List.length_append,List.length_take,List.length_drop,Nat.min_eq_left (by omega)]
  ·rfl
 ·refine aT (Le.frzC (j := 2) (i := 6) [] rfl rfl (by decide)) ?_
  refine aT (Le.frzC (j := 2) (i := 7) [.imm _ _] rfl rfl (by decide)) ?_
  refine aE rfl ?_
  refine bJ (q,p + 1 + 1) ⟨by dsimp only;omega,by dsimp only;omega,by dsimp only;omega⟩ rfl ⟨sE ?_,trivial⟩
  ·rfl
def BK (s : ByteArray) (i : Int) (w : ByteArray) : Bool := decide (0 ≤ i) && (decide (i + w.size ≤ s.size) && ((s.extract i.toNat (i + w.size).toNat).toList == w.toList))
def HE (lo hi : Int) (s : ByteArray) (i : Int) : Int := if i < 0 then -1 else if (s.size : Int) ≤ i then -1 else if ((s[i.toNat]!).toNat : Int) < lo then -1 else if hi < ((s[i.toNat]!).toNat : Int) then -1 else ((s[i.toNat]!).toNat : Int) - lo
theorem rD (s:ByteArray) (i:Int) (w:ByteArray) (hs:s.size ≤ 1048576) (hw:w.size ≤ 1048576) (hi:i ≤ 1048576):PC Tryz.prog 136 [sv s,iv i,sv w] (fun r => r = bv (BK s i w)):=by
 refine aC Tryz.func136 Tryz.ntmps136 ?_
 repeat' (first|(apply aF;first|(apply cX;rfl;rfl;(rfl);rfl)|(apply nL;rfl;exact iD rfl (by omega);exact iD rfl (by omega);omega;rfl))|refine aD ?_|(refine bR ?_ ?_ <;> intro hg hq <;> try (exfalso;omega))|refine cC ?_|fail)
 all_goals (refine ⟨?_,rfl⟩; simp only [aO,AV.v.injEq,Value.bool.injEq,Value.int.injEq,true_and])
 ·unfold BK
  rw [decide_eq_true (by omega),decide_eq_true (by omega)]; rfl
 ·unfold BK
  rw [decide_eq_true (p := 0 ≤ i) (by omega),decide_eq_false (by omega)]; rfl
 ·unfold BK
  rw [decide_eq_false (by omega)]; rfl
theorem HT (s:ByteArray) (i:Int) (hs:s.size ≤ 1048576):PC Tryz.prog 151 [sv s,iv i] (fun r => r = iv (HE 97 122 s i)):=by
 have hb0 : ((s[i.toNat]!).toNat : Int) ≤ 255 := by have := (s[i.toNat]!).toNat_lt;omega
 refine aC Tryz.func151 Tryz.ntmps151 ?_
 repeat' (first|(apply aF;first|(apply nM;rfl;rfl;omega;rfl)|(apply Ci;rfl;rfl;omega;rfl))|refine aD ?_|(refine aK ?_ ?_ <;> intro hc hq <;> try (exfalso;omega))|(refine bR ?_ ?_ <;> intro hg hq <;> try (exfalso;omega))|refine cC ?_|fail)
 all_goals (refine ⟨?_,rfl⟩; simp only [aO,AV.v.injEq,Value.bool.injEq,Value.int.injEq,true_and])
 all_goals (unfold HE;repeat' split)
 all_goals (first|rfl|omega)
theorem Dg (s:ByteArray) (i:Int) (hs:s.size ≤ 1048576):PC Tryz.prog 153 [sv s,iv i] (fun r => r = iv (HE 48 57 s i)):=by
 have hb0 : ((s[i.toNat]!).toNat : Int) ≤ 255 := by have := (s[i.toNat]!).toNat_lt;omega
 refine aC Tryz.func153 Tryz.ntmps153 ?_
 repeat' (first|(apply aF;first|(apply nM;rfl;rfl;omega;rfl)|(apply Ci;rfl;rfl;omega;rfl))|refine aD ?_|(refine aK ?_ ?_ <;> intro hc hq <;> try (exfalso;omega))|(refine bR ?_ ?_ <;> intro hg hq <;> try (exfalso;omega))|refine cC ?_|fail)
 all_goals (refine ⟨?_,rfl⟩; simp only [aO,AV.v.injEq,Value.bool.injEq,Value.int.injEq,true_and])
 all_goals (unfold HE;repeat' split)
 all_goals (first|rfl|omega)
def QP (s : ByteArray) (i : Int) (r : AV) : Prop := ∃ (x : AL.Stmt) (nx : Int),r = .tup [dB x,iv nx] ∧ ((nx = -1 ∧ (bV x : Int) ≤ s.size + 1) ∨ (i < nx ∧ nx ≤ s.size + 3 ∧ (bV x : Int) ≤ nx - i))
def QB (s : ByteArray) (i : Int) (r : AV) : Prop := ∃ (l : List AL.Stmt) (nx : Int),r = .tup [sl aJ l,iv nx] ∧ ((nx = -1 ∧ l = []) ∨ (0 ≤ i ∧ i + 2 ≤ nx ∧ nx ≤ s.size ∧ (aN l : Int) ≤ nx - i))
def QL (s : ByteArray) (i : Int) (r : AV) : Prop := ∃ (l : List AL.Stmt) (nx : Int),r = .tup [sl aJ l,iv nx] ∧ ((nx = -1 ∧ l = []) ∨ (i ≤ nx ∧ nx ≤ s.size ∧ (aN l : Int) ≤ nx - i))
theorem iQ {s w:ByteArray}{i:Int}(h:BK s i w = true):0 ≤ i ∧ i + w.size ≤ s.size:=by
 unfold BK at h;simp only [Bool.and_eq_true,decide_eq_true_eq] at h;exact ⟨h.1,h.2.1⟩
theorem Ma {s:ByteArray}{i op x y n nx:Int}(h:nx = -1 ∨ (i < nx ∧ nx ≤ s.size + 3)):QP s i (.tup [.agg [iv op,iv x,iv y,iv n,.imm 0 [],.imm 0 []],iv nx]) :=
 ⟨.mk op x y n [] [],nx,rfl,by simp only [bV,aN]; omega⟩
theorem L9 {s:ByteArray}{i op x y n nx:Int}{th:List AL.Stmt}(h:(nx = -1 ∧ (aN th:Int) ≤ s.size) ∨ (i < nx ∧ nx ≤ s.size + 3 ∧ (aN th:Int) + 1 ≤ nx - i)):QP s i (.tup [.agg [iv op,iv x,iv y,iv n,sl aJ th,.imm 0 []],iv nx]) :=
 ⟨.mk op x y n th [],nx,rfl,by simp only [bV,aN]; omega⟩
theorem L8 {s:ByteArray}{i op x y n nx:Int}{th el:List AL.Stmt}(h:(nx = -1 ∧ (aN th:Int) + aN el ≤ s.size) ∨ (i < nx ∧ nx ≤ s.size + 3 ∧ (aN th:Int) + aN el + 1 ≤ nx - i)):QP s i (.tup [.agg [iv op,iv x,iv y,iv n,sl aJ th,sl aJ el],iv nx]) :=
 ⟨.mk op x y n th el,nx,rfl,by simp only [bV]; omega⟩
theorem QP.pur {s:ByteArray}{i:Int}{r:AV}(h:QP s i r):r.pur = true := by obtain ⟨x,nx,rfl,_⟩ := h;exact Pur.pf
theorem QB.pur {s:ByteArray}{i:Int}{r:AV}(h:QB s i r):r.pur = true := by obtain ⟨x,nx,rfl,_⟩ := h;exact Pur.pf
theorem QL.pur {s:ByteArray}{i:Int}{r:AV}(h:QL s i r):r.pur = true := by obtain ⟨x,nx,rfl,_⟩ := h;exact Pur.pf
theorem qI {P:Program}{s:AS}{res:Array ResultVar}{q:AV → Prop}{l:List AV}(hQ:∀ r,q r → r.pur = true) (hr:sG P (lk s.ts) (aR s.hs) res.toList = some l) (h:q (aO l)):lV P res (fun r _ => q r ∧ r.pur = true) .ret s := aE hr ⟨h,hQ _ h⟩
theorem zJ (s:ByteArray) (i dp:Int) (hs:s.size ≤ 100000) (hi0:0 ≤ i) (hi:i ≤ s.size) (hd0:0 ≤ dp) (hd:dp ≤ 10) (braces_ih:∀ j dj:Int,dj = dp - 1 → -1 ≤ j → j ≤ s.size + 10 → PC Tryz.prog 152 [sv s,iv j,iv dj] (QB s j)):PC Tryz.prog 137 [sv s,iv i,iv dp] (QP s i):=by
 have h1 : BK s i ⟨#[100,114,111,112,32]⟩ = true → i + 5 ≤ s.size := fun h => (iQ h).2
 have h2 : BK s i ⟨#[108,111,111,112,123]⟩ = true → i + 5 ≤ s.size := fun h => (iQ h).2
 have h3 : BK s i ⟨#[105,102,123]⟩ = true → i + 3 ≤ s.size := fun h => (iQ h).2
 have h4 : BK s i ⟨#[42]⟩ = true → i + 1 ≤ s.size := fun h => (iQ h).2
 have h5 : BK s (i + 1) ⟨#[61]⟩ = true → i + 1 + 1 ≤ s.size := fun h => (iQ h).2
 have h6 : BK s (i + 2) ⟨#[98,111,120,32]⟩ = true → i + 2 + 4 ≤ s.size := fun h => (iQ h).2
 have h7 : BK s (i + 2) ⟨#[38,109,117,116,32]⟩ = true → i + 2 + 5 ≤ s.size := fun h => (iQ h).2
 refine aC Tryz.func137 Tryz.ntmps137 ?_
 repeat' (first|(apply aF;(first|(apply aA (k := 136);rfl;(apply rD <;> (first|omega|decide));(rfl);rfl)|(apply aA (k := 151);rfl;(apply HT <;> (omega));(rfl);rfl)|(apply gI (k := 152);rfl;(apply braces_ih <;> (omega));(rfl);rfl;(rintro _ ⟨l,nx,rfl,hql⟩ _))|(apply aA (k := 153);rfl;(apply Dg <;> (omega));(rfl);rfl)))|refine aD ?_|(refine aK ?_ ?_ <;> intro hc hq <;> try (exfalso;omega))|(refine bR ?_ ?_ <;> intro hg hq <;> try (exfalso;omega))|fail)
 all_goals refine qI (fun _ => QP.pur) (l := [.agg [_,_,_,_,_,_],_]) rfl ?_
 all_goals (try have b1 := h1 (by assumption))
 all_goals (try have b2 := h2 (by assumption))
 all_goals (try have b3 := h3 (by assumption))
 all_goals (try have b4 := h4 (by assumption))
 all_goals (try have b5 := h5 (by assumption))
 all_goals (try have b6 := h6 (by assumption))
 all_goals (try have b7 := h7 (by assumption))
 all_goals clear h1 h2 h3 h4 h5 h6 h7
 all_goals first
  | (refine Ma ?_; omega)
  | skip
 ·refine L9 (th := l) ?_
  rcases hql with ⟨h8,h9⟩|hql
  ·rw [h9]; simp only [aN]; omega
  ·omega
 ·rename_i l1 nx1 hql1 hpu1 hpu2
  refine L8 (th := l1) (el := l) ?_
  rcases hql1 with ⟨h8,h9⟩|hql1 <;> rcases hql with ⟨h10,h11⟩|hql
  ·rw [h9,h11]; simp only [aN]; omega
  ·omega
  ·rw [h11]; simp only [aN]; omega
  ·omega
theorem tQ (s:ByteArray) (i dp:Int) (hs:s.size ≤ 100000) (hi0:-1 ≤ i) (hi:i ≤ s.size + 10) (hd0:-1 ≤ dp) (hd:dp ≤ 10) (list_ih:∀ j dj:Int,0 ≤ dp → dj = dp → 0 ≤ j → j ≤ s.size → PC Tryz.prog 111 [sv s,iv j,iv dj] (QL s j)):PC Tryz.prog 152 [sv s,iv i,iv dp] (QB s i):=by
 have h1 : BK s i ⟨#[123]⟩ = true → 0 ≤ i ∧ i + 1 ≤ s.size := fun h => iQ h
 refine aC Tryz.func152 Tryz.ntmps152 ?_
 repeat' (first|(apply aF;(apply aA (k := 136);rfl;(apply rD <;> (first|omega|decide));(rfl);rfl))|refine aD ?_|(refine aK ?_ ?_ <;> intro hc hq <;> try (exfalso;omega))|(refine bR ?_ ?_ <;> intro hg hq <;> try (exfalso;omega))|fail)
 ·refine aT (Le.nilImm (d := 6) rfl) ?_
  exact qI (fun _ => QB.pur) (l := [.imm 0 [],iv (-1)]) rfl ⟨[],-1,rfl,.inl ⟨rfl,rfl⟩⟩
 ·have b1 := h1 (by assumption)
  repeat' (first|(apply aF;(first|(apply gI (k := 111);rfl;(apply list_ih <;> (first|assumption|omega));(rfl);rfl;(rintro _ ⟨l,nx,rfl,hql⟩ _))|(apply aA (k := 136);rfl;(apply rD <;> (first|omega|decide));(rfl);rfl)))|refine aD ?_|(refine aK ?_ ?_ <;> intro hc hq <;> try (exfalso;omega))|fail)
  ·refine aT (Le.nilImm (d := 6) rfl) ?_
   exact qI (fun _ => QB.pur) (l := [.imm 0 [],iv (-1)]) rfl ⟨[],-1,rfl,.inl ⟨rfl,rfl⟩⟩
  ·have b2 : 0 ≤ nx ∧ nx + 1 ≤ s.size := iQ (w := ⟨#[125]⟩) (by assumption)
   exact qI (fun _ => QB.pur) (l := [sl aJ l,iv (nx + 1)]) rfl ⟨l,nx + 1,rfl,by omega⟩
 ·refine aT (Le.nilImm (d := 6) rfl) ?_
  exact qI (fun _ => QB.pur) (l := [.imm 0 [],iv (-1)]) rfl ⟨[],-1,rfl,.inl ⟨rfl,rfl⟩⟩
theorem Bw (s:ByteArray) (i dp:Int) (hs:s.size ≤ 100000) (hi0:0 ≤ i) (hi:i ≤ s.size) (hd0:0 ≤ dp) (hd:dp ≤ 10) (parse_ih:∀ j dj:Int,dj = dp → 0 ≤ j → j ≤ s.size → PC Tryz.prog 137 [sv s,iv j,iv dj] (QP s j)):PC Tryz.prog 111 [sv s,iv i,iv dp] (QL s i):=by
 refine aC Tryz.func111 Tryz.ntmps111 ?_
 repeat' (first|(apply aF;(apply aA (k := 136);rfl;(apply rD <;> (first|omega|decide));(rfl);rfl))|refine aD ?_|(refine aK ?_ ?_ <;> intro hc hq <;> try (exfalso;omega))|(refine bR ?_ ?_ <;> intro hg hq <;> try (exfalso;omega))|fail)
 rotate_left 1
 ·refine aI (σ := Int × List AL.Stmt × Nat) [0, 2] [] (fun k => [(1, iv k.1), (8, .own 0 0 k.2.2 6)]) (fun k => [(0, some (flat aJ k.2.1))]) (fun k => i ≤ k.1 ∧ k.1 ≤ s.size ∧ k.2.2 = k.2.1.length ∧ (aN k.2.1 : Int) ≤ k.1 - i) (fun k => (s.size - k.1).toNat) (i, [], 0) ⟨by omega, by omega, rfl, by simp [aN]⟩ ?_
  rintro ⟨k,xs,m⟩ ⟨hk0,hk,hm,hc⟩
  dsimp only at hk0 hk hm hc ⊢
  have hln := cZ xs
  repeat' (first|(apply aF;first|(apply aL (t := _);rfl;rfl;rfl;(exact (rfl:_=some [_,_,_,_,_,_]));rfl;rfl)|(first|(apply aA (k := 136);rfl;(apply rD <;> (first|omega|decide));(rfl);rfl)|(apply gI (k := 137);rfl;(apply parse_ih <;> (first|assumption|omega));(rfl);rfl;(rintro _ ⟨x,nx,rfl,hqx⟩ _))))|refine aD ?_|(refine aK ?_ ?_ <;> intro hc hq <;> try (exfalso;omega))|(refine bR ?_ ?_ <;> intro hg hq <;> try (exfalso;omega))|fail)
  ·refine aT (Le.nilImm (d := 6) rfl) ?_
   exact qI (fun _ => QL.pur) (l := [.imm 0 [],iv (-1)]) rfl ⟨[],-1,rfl,.inl ⟨rfl,rfl⟩⟩
  ·refine aT (Le.frzD (d := 6) (i := 3) rfl rfl) ?_
   refine qI (fun _ => QL.pur) (l := [.imm (m + 1) (flat aJ (xs ++ [x])),iv nx]) rfl ⟨xs ++ [x],nx,?_,?_⟩
   ·show AV.tup [AV.imm (m + 1) _, _] = AV.tup [AV.imm (List.length (xs ++ [x])) _, _]
    rw [List.length_append,hm]; rfl
   ·rw [eM]; simp only [aN]; omega
  ·have b2 : 0 ≤ nx ∧ nx + 1 ≤ s.size := iQ (w := ⟨#[59]⟩) (by assumption)
   (refine aY (nx + 1,xs ++ [x],m + 1) (Le.renA [(0,3)]) ?_ ?_)
   ·dsimp only
    refine ⟨by omega,by omega,by simp [hm],?_⟩
    rw [eM]; simp only [aN]; omega
   ·dsimp only;omega
  ·refine aT (Le.nilImm (d := 6) rfl) ?_
   exact qI (fun _ => QL.pur) (l := [.imm 0 [],iv (-1)]) rfl ⟨[],-1,rfl,.inl ⟨rfl,rfl⟩⟩
 ·refine aT (Le.frzD (d := 6) (i := 0) rfl rfl) ?_
  exact qI (fun _ => QL.pur) (l := [.imm 0 [],iv i]) rfl ⟨[],i,rfl,by simp only [aN]; omega⟩
 ·refine aT (Le.frzD (d := 6) (i := 0) rfl rfl) ?_
  exact qI (fun _ => QL.pur) (l := [.imm 0 [],iv i]) rfl ⟨[],i,rfl,by simp only [aN]; omega⟩
theorem zK (s:ByteArray) (hs:s.size ≤ 100000):∀ n:Nat,n ≤ 10 → (∀ j:Int,-1 ≤ j → j ≤ s.size + 10 → PC Tryz.prog 152 [sv s,iv j,iv ((n:Int) - 1)] (QB s j)) ∧ (∀ j:Int,0 ≤ j → j ≤ s.size → PC Tryz.prog 111 [sv s,iv j,iv (n:Int)] (QL s j))
 | 0, hn => by
  have hB : ∀ j : Int, -1 ≤ j → j ≤ s.size + 10 → PC Tryz.prog 152 [sv s, iv j, iv (((0 : Nat) : Int) - 1)] (QB s j) :=
   fun j h0 h1 => tQ s j (((0 : Nat) : Int) - 1) hs h0 h1 (by omega) (by omega) (fun _ _ h => by omega)
  have hP : ∀ j : Int, 0 ≤ j → j ≤ s.size → PC Tryz.prog 137 [sv s, iv j, iv ((0 : Nat) : Int)] (QP s j) :=
   fun j h0 h1 => zJ s j _ hs h0 h1 (by omega) (by omega) (fun k dj h2 h3 h4 => by subst h2;exact hB k h3 h4)
  exact ⟨hB,fun j h0 h1 => Bw s j _ hs h0 h1 (by omega) (by omega) (fun k dj h2 h3 h4 => by subst h2;exact hP k h3 h4)⟩
 | n + 1, hn => by
  have ih := zK s hs n (by omega)
  have e : (((n + 1 : Nat) : Int) - 1) = (n : Int) := by omega
  have hB : ∀ j : Int, -1 ≤ j → j ≤ s.size + 10 → PC Tryz.prog 152 [sv s, iv j, iv (((n + 1 : Nat) : Int) - 1)] (QB s j) :=
   fun j h0 h1 => tQ s j _ hs h0 h1 (by omega) (by omega) (fun k dj h2 h3 h4 h5 => by rw [e] at h3;subst h3;exact ih.2 k h4 h5)
  have hP : ∀ j : Int, 0 ≤ j → j ≤ s.size → PC Tryz.prog 137 [sv s, iv j, iv ((n + 1 : Nat) : Int)] (QP s j) :=
   fun j h0 h1 => zJ s j _ hs h0 h1 (by omega) (by omega) (fun k dj h2 h3 h4 => by subst h2;exact hB k h3 h4)
  exact ⟨hB,fun j h0 h1 => Bw s j _ hs h0 h1 (by omega) (by omega) (fun k dj h2 h3 h4 => by subst h2;exact hP k h3 h4)⟩
theorem HX (s:ByteArray) (i:Int) (hs:s.size ≤ 100000) (hi0:0 ≤ i) (hi:i ≤ s.size):PC Tryz.prog 111 [sv s,iv i,iv 4] (QL s i) := (zK s hs 4 (by omega)).2 i hi0 hi
theorem qK (v:Int) (h0:0 ≤ v) (h1:v ≤ 25):PC Tryz.prog 26 [iv v] (fun r => r = sv (eI v)):=by
 refine aC Tryz.func26 Tryz.ntmps26 ?_
 repeat' (first|(apply aF;first|(apply I0;rfl;rfl;omega;rfl)|(apply rJ (ns := [_]);rfl;rfl;rfl)|(apply kX;rfl;omega;rfl))|refine aD ?_|refine cC ?_|fail)
 exact ⟨rfl,rfl⟩
theorem EK (n:Int) (h0:0 ≤ n) (h1:n ≤ 9):PC Tryz.prog 24 [iv n] (fun r => r = sv (sB n)):=by
 refine aC Tryz.func24 Tryz.ntmps24 ?_
 repeat' (first|refine aD ?_|(refine aK ?_ ?_ <;> intro hc hq <;> try (exfalso;omega))|fail)
 refine aI (σ := Unit) [0,3] [] (fun u => []) (fun u => []) (fun u => True) (fun u => 0) () trivial ?_
 rintro u _
 repeat' (first|(apply aF;first|(apply cX;rfl;rfl;(rfl);rfl)|(apply rJ (ns := [_]);rfl;rfl;rfl)|(apply kX;rfl;omega;rfl))|refine aD ?_|(refine aK ?_ ?_ <;> intro hc hq <;> try (exfalso;omega))|refine cC ?_|fail)
 exact ⟨rfl,rfl⟩
theorem wP (s:AL.Stmt) (hc:bV s ≤ 10000) (hop:(s.op = 9 ∨ s.op = 10) ∨ (1 ≤ s.op ∧ s.op ≤ 8 ∧ 0 ≤ s.x ∧ s.x ≤ 5 ∧ 0 ≤ s.y ∧ s.y ≤ 5 ∧ (s.op = 1 ∨ s.op = 2 → 0 ≤ s.n ∧ s.n ≤ 9)))
  (hth : s.op = 9 ∨ s.op = 10 → PC Tryz.prog 95 [sl aJ s.th] (fun r => r = sv (hO s.th))) (hel : s.op = 9 → PC Tryz.prog 95 [sl aJ s.el] (fun r => r = sv (hO s.el))) : PC Tryz.prog 55 [dB s] (fun r => r = sv (fV s)) := by
 have k1 := jN s.th
 have k2 := jN s.el
 have k3 := eT s
 refine aC Tryz.func55 Tryz.ntmps55 ?_
 repeat' (first|(apply aF;first|(apply cX;rfl;rfl;(first|rfl|exact iP (by (simp only [ByteArray.size_append,e8,List.length_cons,List.length_nil,dN,dL,fG] <;> omega)));rfl)|(first|(apply aA (k := 95);rfl;(first|(apply hth;omega)|(apply hel;omega));exact Pur.pf;rfl)|(apply aA (k := 26);rfl;(apply qK <;> (omega));(rfl);rfl)|(apply aA (k := 24);rfl;(apply EK <;> (omega));(rfl);rfl)))|refine aD ?_|(refine aK ?_ ?_ <;> intro hc hq <;> try (exfalso;omega))|refine bT ?_|refine cC ?_|fail)
 all_goals (refine ⟨?_,rfl⟩; rw [sU]; repeat' split)
 all_goals (first|rfl|omega)
theorem yL (l:List AL.Stmt) (hc:aN l ≤ 10000) (text_ih:∀ k,k < l.length → PC Tryz.prog 55 [dB l[k]!] (fun r => r = sv (fV l[k]!))):PC Tryz.prog 95 [sl aJ l] (fun r => r = sv (hO l)):=by
 have hlen := cZ l
 refine aC Tryz.func95 Tryz.ntmps95 ?_
 repeat' (first|refine aD ?_|fail)
 refine aI (σ := Nat × ByteArray) [0] [] (fun k => [(4,iv (k.1 : Int)),(3,sv k.2)]) (fun k => []) (fun k => k.1 ≤ l.length ∧ k.2 = hO (l.take k.1)) (fun k => l.length - k.1) (0,⟨#[]⟩) ⟨by omega,rfl⟩ ?_
 rintro ⟨k,t⟩ ⟨hk,ht⟩
 dsimp only at hk ht ⊢
 have k1 := jN (l.take k)
 have k2 := l9 l[k]!
 have hck := fA l k
 have hct : aN (l.take k) ≤ aN l := by have := eM (l.take k) (l.drop k);rw [List.take_append_drop] at this;omega
 have k3 : t.size = (hO (l.take k)).size := by rw [ht]
 repeat' (first|(apply aF;first|(apply cX;rfl;rfl;(exact iP (by (first|omega|(simp only [ByteArray.size_append,e8,List.length_cons,List.length_nil,dN,dL,fG] <;> omega))));rfl)|(apply aA (k := 55);rfl;(apply text_ih <;> (omega));exact Pur.pf;rfl))|refine aD ?_|(refine aK ?_ ?_ <;> intro hc hq <;> try (exfalso;omega))|refine cC ?_|fail)
 ·(refine aY (k + 1, _) (Le.renA []) ?_ ?_)
  ·exact ⟨by dsimp only;omega,by dsimp only;rw [pN l k (by omega),oQ,if_pos (by omega),ht]⟩
  ·dsimp only;omega
 ·(refine aY (k + 1, _) (Le.renA []) ?_ ?_)
  ·exact ⟨by dsimp only;omega,by dsimp only;rw [pN l k (by omega),oQ,if_neg (by omega),ht]⟩
  ·dsimp only;omega
 ·have hke : k = l.length := by omega
  refine ⟨?_,rfl⟩
  rw [ht,hke,List.take_length]; rfl
theorem ER (ts:List Int) (hts:bC ts = true):∀ m:Nat,m ≤ 10000 → ∀ l d,aN l ≤ m → okL ts d l = true → PC Tryz.prog 95 [sl aJ l] (fun r => r = sv (hO l)):=by
 intro m
 induction m with
 | zero =>
  intro hm l d hc ho
  have := cZ l
  exact yL l (by omega) (fun k hk => by omega)
 | succ m ih =>
  intro hm l d hc ho
  refine yL l (by omega) (fun k hk => ?_)
  have hck := fA l k hk
  have hct := jT l[k]!
  have hs : rF ts d l[k]! = true := by rw [vF,iK] at ho;exact ho k hk
  rw [BX] at hs
  by_cases h9 : l[k]!.op ≠ 9 ∧ l[k]!.op ≠ 10
  ·rw [if_pos h9] at hs
   simp only [Bool.and_eq_true] at hs
   exact wP _ (by omega) (.inr (tI hts hs.2)) (fun h => by omega) (fun h => by omega)
  ·rw [if_neg h9] at hs
   cases d with
   | zero => cases hs
   | succ d =>
    simp only [Bool.and_eq_true] at hs
    exact wP _ (by omega) (.inl (by omega)) (fun h => ih (by omega) _ d (by omega) hs.1.2) (fun h => ih (by omega) _ d (by omega) hs.2)
theorem FZ (ts:List Int) (d:Nat) (l:List AL.Stmt) (hts:bC ts = true) (hc:aN l ≤ 10000) (ho:okL ts d l = true):PC Tryz.prog 95 [sl aJ l] (fun r => r = sv (hO l)) := ER ts hts _ hc l d (Nat.le_refl _) ho
def Az (s : ByteArray) : List AV := [.v (.string s)]
instance : FlT Az 1:=⟨fun _ => rfl⟩
instance : FE Az (fun s => [.v (.string s)]):=⟨fun _ => rfl⟩
instance (s : ByteArray) : Pur (Az s):=⟨rfl⟩
theorem Le.slotEq {ts:List (Nat × AV)}{hs:List (Nat × Option (List AV))}{n:Nat}{z0:Lo}{d:Nat}(v v':AV) (hd:lk ts d = some v) (h:v = v'):Le ⟨ts,hs,n,z0⟩ ⟨(d,v') :: ts,hs,n,z0⟩ :=
 Le.slot hd fun w bad ι y hr => h ▸ hr
def kinds : List ByteArray := [⟨#[]⟩,⟨#[105]⟩,⟨#[98]⟩,⟨#[114]⟩,⟨#[109]⟩]
theorem zV (k:Nat):(kinds[k]!).size ≤ 1:=by
 match k with
 | 0 => decide
 | 1 => decide
 | 2 => decide
 | 3 => decide
 | 4 => decide
 | k + 5 => exact (show (default : ByteArray).size ≤ 1 from by decide)
theorem xJ (p:Prg) (hv:bH p = true):PC Tryz.prog 112 [bU p] (fun r => ∃ t,r = sv t):=by
 have hv2 := hv
 simp only [bH,Bool.and_eq_true,decide_eq_true_eq] at hv2
 obtain ⟨⟨hts,hol⟩,hcn⟩ := hv2
 have hl6 := fW hts
 have htx := jN p.body
 refine aC Tryz.func112 Tryz.ntmps112 ?_
 repeat' (first|refine aD ?_|fail)
 refine aI (σ := Nat × ByteArray) [1] [0] (fun k => [(4,iv (k.1 : Int)),(3,sv k.2)]) (fun k => []) (fun k => k.1 ≤ p.types.length ∧ k.2.size ≤ k.1) (fun k => p.types.length - k.1) (0,⟨#[]⟩) ⟨by omega,by show 0 ≤ 0;omega⟩ ?_
 rintro ⟨k,t⟩ ⟨hk,ht⟩
 dsimp only at hk ht ⊢
 have htk := j1 hts k
 have hkz : (kinds[(p.types[k]!).toNat]!).size ≤ 1 := zV _
 have hkl : kinds.length = 5 := rfl
 repeat' (first|(apply aF;first|(with_reducible apply bW (d := 14))|(apply aA (k := 95);rfl;exact FZ p.types 4 p.body hts (by omega) hol;exact Pur.pf;rfl)|(apply cX;rfl;rfl;(exact iP (by (simp only [ByteArray.size_append,e8,List.length_cons,List.length_nil,dN,dL,fG] <;> omega)));rfl)|(apply aL (t := _);rfl;rfl;rfl;(exact (rfl:_=some [_,_,_,_,_]));rfl;rfl))|refine aD ?_|(refine aK ?_ ?_ <;> intro hc hq <;> try (exfalso;omega))|fail)
 ·refine dQ (dR ?_ (Le.slotEq (d := 13) _ (.imm 5 (flat Az kinds)) rfl rfl))
  repeat' (first|(apply aF;(apply cX;rfl;rfl;(exact iP (by (omega)));rfl))|refine aD ?_|fail)
  (refine aY (k + 1,_) (Le.renA [(0,0)]) ?_ ?_)
  ·exact ⟨by dsimp only;omega,by dsimp only;rw [ByteArray.size_append]; omega⟩
  ·dsimp only;omega
 ·refine aE rfl ⟨⟨_,rfl⟩,rfl⟩
theorem FM {s:ByteArray}(b:Bool):(∃ (q:Prg) (b':Bool),AV.tup [AV.agg [.imm 0 [],.imm 0 []],bv b] = .tup [bU q,bv b'] ∧ aN q.body ≤ s.size + 10 ∧ q.types.length ≤ s.size + 10) :=
 ⟨⟨[],[]⟩,b,rfl,by simp [aN],by simp⟩
theorem rU (s:ByteArray) (hs:s.size ≤ 10000):PC Tryz.prog 72 [sv s] (fun r => ∃ (q:Prg) (b:Bool),r = .tup [bU q,bv b] ∧ aN q.body ≤ s.size + 10 ∧ q.types.length ≤ s.size + 10):=by
 refine aC Tryz.func72 Tryz.ntmps72 ?_
 repeat' (first|(apply aF;(with_reducible apply bW (d := 13)))|refine aD ?_|(refine aK ?_ ?_ <;> intro hc hq <;> try (exfalso;omega))|fail)
 ·exact aE (l := [.agg [.imm 0 [],.imm 0 []],bv false]) rfl ⟨FM false,rfl⟩
 refine dQ ?_
 apply nF
 case hl => rfl
 case hf => exact (rfl:_=some [AV.v (.slice none 0 0),AV.v (.slice none 0 0)])
 case hN => rfl
 repeat' (first|refine aD ?_|fail)
 apply AW.le
 case k => exact Le.nilCell (i := 1) 1 [] rfl (by decide) (by decide)
 refine aI (σ := Nat × List Int × Nat) [0,2,4] [0] (fun k => [(5,iv (k.1 : Int))]) (fun k => [(1,some [.own 2 0 k.2.2 1,.v (.slice none 0 0)]),(2,some (flat cI k.2.1))]) (fun k => k.1 ≤ s.size ∧ k.2.1.length = k.1 ∧ k.2.2 = k.2.1.length) (fun k => s.size - k.1) (0,[],0) ⟨by omega,rfl,rfl⟩ ?_
 rintro ⟨k,xs,m⟩ ⟨hk,hxl,hm⟩
 dsimp only at hk hxl hm ⊢
 repeat' (first|(apply aF;first|(with_reducible apply bW (d := 43))|(apply nM;rfl;rfl;omega;rfl)|(apply aL (t := _);rfl;rfl;rfl;exact (rfl:_=some [_]);rfl;rfl))|refine aD ?_|(refine aK ?_ ?_ <;> intro hc hq <;> try (exfalso;omega))|(refine bR ?_ ?_ <;> intro hg hq <;> try (exfalso;omega))|fail)
 ·(refine aY (k + 1, xs ++ [1], m + 1) (Le.renA [(0, 0), (1, 1), (2, 4)]) ?_ ?_)
  ·exact ⟨by dsimp only;omega,by simp [hxl],by simp [hm]⟩
  ·dsimp only;omega
 ·(refine aY (k + 1, xs ++ [2], m + 1) (Le.renA [(0, 0), (1, 1), (2, 4)]) ?_ ?_)
  ·exact ⟨by dsimp only;omega,by simp [hxl],by simp [hm]⟩
  ·dsimp only;omega
 ·(refine aY (k + 1, xs ++ [3], m + 1) (Le.renA [(0, 0), (1, 1), (2, 4)]) ?_ ?_)
  ·exact ⟨by dsimp only;omega,by simp [hxl],by simp [hm]⟩
  ·dsimp only;omega
 ·(refine aY (k + 1, xs ++ [4], m + 1) (Le.renA [(0, 0), (1, 1), (2, 4)]) ?_ ?_)
  ·exact ⟨by dsimp only;omega,by simp [hxl],by simp [hm]⟩
  ·dsimp only;omega
 ·(refine aY (k + 1, xs ++ [0], m + 1) (Le.renA [(0, 0), (1, 1), (2, 4)]) ?_ ?_)
  ·exact ⟨by dsimp only;omega,by simp [hxl],by simp [hm]⟩
  ·dsimp only;omega
 all_goals subst hm
 all_goals (refine dQ (dR ?_ (Le.frzC (j := 1) (i := 2) [] rfl rfl (by decide))))
 all_goals repeat' (first|(apply aF;first|(apply gI (k := 111);rfl;(apply HX <;> omega);(rfl);rfl;(rintro _ ⟨l,nx,rfl,hql⟩ _))|(apply aA (k := 51);rfl;(exact kR ⟨xs,l⟩ (by show xs.length ≤ _; omega) (by show aN l ≤ 100000000;rcases hql with ⟨_,h9⟩|h9;(rw [h9]; decide);omega));exact Pur.pf;rfl)|(apply gI (k := 112);rfl;exact xJ ⟨xs,l⟩ (by assumption);exact Pur.pf;rfl;(rintro _ ⟨t,rfl⟩ _))|(apply cX;rfl;rfl;(rfl);rfl))|refine aD ?_|(refine aK ?_ ?_ <;> intro hc hq <;> try (exfalso;omega))|(refine bR ?_ ?_ <;> intro hg hq <;> try (exfalso;omega))|fail)
 all_goals first
  | exact aE (l := [.agg [.imm 0 [],.imm 0 []],bv false]) rfl ⟨FM false,rfl⟩
  | (refine aE (l := [.agg [.imm xs.length (flat cI xs), sl aJ l], bv true]) rfl ⟨⟨⟨xs, l⟩, true, rfl, ?_, by show xs.length ≤ _; omega⟩, Pur.pf⟩
     show aN l ≤ _
     rcases hql with ⟨_,h9⟩|h9
     ·rw [h9]; simp [aN]
     ·omega)
end Go.Proofs.YtgkalkgplcdnkaaGreatDoor
