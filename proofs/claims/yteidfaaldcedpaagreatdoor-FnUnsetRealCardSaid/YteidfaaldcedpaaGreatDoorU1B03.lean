/-
 A part of the proofs over this program: rules and contracts of its functions (the contracts).
-/
import Derived.Test.YteidfaaldcedpaaGreatDoorU1B02
set_option linter.unusedVariables false
set_option linter.unusedSimpArgs false
set_option maxHeartbeats 8000000
set_option maxRecDepth 4000
attribute [local irreducible] Go.AL.RW Go.AL.AW Go.AL.Stop
namespace Go.Proofs.YteidfaaldcedpaaGreatDoor
open Go.AL Go.RowKit
variable {N : Nat} {Q : Exit → AS → Prop} {all : Array Oper} {rest : List Oper} {tsl : List (Nat × AV)} {hsl : List (Nat × Option (List AV))} {nidl : Nat} {z0 : Lo} {md : Md} {d : Nat} {ty : TypeId} {pos : String} {af : Array Edge} {tys : Array TypeId}
def HO (nv N : Nat) (i : Nat) : List AV := [.imm nv (flat (Bd (i * (nv + 1)) N) (List.range nv)),.own (i * (nv + 1) + nv + a6) 0 N 1]
instance (nv N : Nat) : FlT (HO nv N) 2:=⟨fun _ => rfl⟩
instance (nv N : Nat) : FE (HO nv N) (fun i => [.imm nv (flat (Bd (i * (nv + 1)) N) (List.range nv)),.own (i * (nv + 1) + nv + a6) 0 N 1]):=⟨fun _ => rfl⟩
theorem rT {m:List (Nat × Nat)}{lo:Lo}{pn:Option Nat}{nv N k M:Nat}(hk:k ≤ M) (h:lo.fb = a6 + M * (nv + 1)):RnL (kB m lo pn) (flat (HO nv N) (List.range k)) (flat (HO nv N) (List.range k)) :=
 RnL.flt fun i hi => by
  rw [List.mem_range] at hi
  have h1 : i * (nv + 1) + nv < M * (nv + 1) := gX (by omega) (by omega)
  exact .cons (.imm (dD (by rw [h]; omega))) (.cons (.own (iN (by omega) (by rw [h]; omega))) .nil)
theorem Io {m:List (Nat × Nat)}{lo:Lo}{pn:Option Nat}{nv N k:Nat}(h:lo.fb = a6 + (k + 1) * (nv + 1)):RnL (kB m lo pn) (flat (HO nv N) (List.range (k + 1))) (((flat (HO nv N) (List.range k)).drop 0).take (k * 2) ++ HO nv N k):=by
 have e : ((flat (HO nv N) (List.range k)).drop 0).take (k * 2) = flat (HO nv N) (List.range k) := List.take_of_length_le (by rw [List.drop_zero,aI (HO nv N) (e := 2)]; simp)
 have := rT (m := m) (pn := pn) (N := N) (Nat.le_refl (k + 1)) h
 rw [e]
 rw [List.range_succ,← cE,nL] at this ⊢
 exact this
def Rj (s : List (List Bool) × List Bool) : List AV := [sl iF s.1,sl cB s.2]
instance : FlT Rj 2:=⟨fun _ => rfl⟩
instance : FE Rj (fun s => [sl iF s.1,sl cB s.2]):=⟨fun _ => rfl⟩
theorem N8 {D:List Nat}{hs:List (Nat × Option (List AV))}{R:List (List Bool)}{nv N M n:Nat}(hF:FamR R R hs hs) (hD:∀ k,k < nv + 1 → n * (nv + 1) + k + a6 ∈ D) (hlo:R.length = M * (nv + 1)) (hn:n < M) (hro:∀ q,q < R.length → R[q]!.length = N) :
  LdL D (aT hs) (HO nv N n) [sl iF (k4 nv R n),sl cB (lL nv R n)] := by
 have h1 : n * (nv + 1) + nv < M * (nv + 1) := gX hn (by omega)
 have h2 : (k4 nv R n).length = nv := tT hlo hn
 have h3 : (lL nv R n).length = N := hro _ (by omega)
 have e1 : sl iF (k4 nv R n) = .imm nv (flat iF ((R.drop (n * (nv + 1))).take nv)) := by unfold sl;rw [h2]; rfl
 have e2 : sl cB (lL nv R n) = .imm N (flat cB (lL nv R n)) := by unfold sl;rw [h3]
 rw [e1,e2]
 exact .cons (.imm (LdL.rows hF (fun k hk => hD k (by omega)) (by omega) (fun k hk => hro _ (by omega)))) (.cons (.own (hD nv (by omega)) (hF.get (by omega)) (.pur (inferInstance : Pur (flat cB _)).pf)) .nil)
def Ny (b : Nat) : List Nat := [b + 0 + a6,b + 1 + a6,b + 2 + a6,b + 3 + a6,b + 4 + a6,b + 5 + a6,b + 6 + a6]
theorem B0 {b k:Nat}(h:k < 7):b + k + a6 ∈ Ny b:=by
 unfold Ny
 match k,h with
 | 0,_ => simp
 | 1,_ => simp
 | 2,_ => simp
 | 3,_ => simp
 | 4,_ => simp
 | 5,_ => simp
 | 6,_ => simp
theorem uI {nv N n k:Nat}{R:List (List Bool)}(hlo:R.length = N * (nv + 1)) (hn:n < N) (hk:k < nv + 1):((R.drop (n * (nv + 1))).take (nv + 1))[k]! = R[n * (nv + 1) + k]!:=by
 have h1 := gX hn hk
 have h2 : n * (nv + 1) + nv < N * (nv + 1) := gX hn (by omega)
 rw [aY _ _ (by rw [List.length_take,List.length_drop]; omega),aY _ _ (by omega),List.getElem_take,List.getElem_drop]
theorem lF {nv N n:Nat}{R:List (List Bool)}(hlo:R.length = N * (nv + 1)) (hn:n < N):((R.drop (n * (nv + 1))).take (nv + 1)).length = nv + 1:=by
 have h2 : n * (nv + 1) + nv < N * (nv + 1) := gX hn (by omega)
 rw [List.length_take,List.length_drop]; omega
theorem GP (ts:List Int) (pts:List Pnt) (w:WG ts pts) (i:Nat) (hi:i < pts.length) (R:List (List Bool)) (h:FSd ts pts R) :
  Qw Tryz.prog 124 [sl cI ts,sl b8 pts,iv (i : Int),O1 0 ts.length pts.length] ((R.drop (i * (ts.length + 1))).take (ts.length + 1)) (.agg [sl iF (qT ts pts i (k4 ts.length R i)),sl cB (qS ts pts i (lL ts.length R i))]) [] := by
 have h1 := Gc ts pts w i hi ((R.drop (i * (ts.length + 1))).take (ts.length + 1)) (lF h.lo hi) (fun k hk => by rw [uI h.lo hi hk]; exact h.ro _ (by rw [h.lo]; exact gX hi hk))
 rw [uI h.lo hi (by omega),List.take_take,show min ts.length (ts.length + 1) = ts.length from by omega] at h1
 exact h1
theorem Fi {ts:List Int}{pts:List Pnt}(w:WG ts pts){R:List (List Bool)}(h:FSd ts pts R){i v:Nat}(hi:i < pts.length) (hv:v < ts.length):(qT ts pts i (k4 ts.length R i))[v]!.length = pts.length:=by
 rw [lR _ _ _ _ _ hv]
 split
 ·exact j7 _ _ _ _
 ·split
  ·simp
  ·rw [iI h.lo hi hv]; exact h.ro _ (by rw [h.lo]; exact gX hi (by omega))
theorem wP {b:List Bool}{R:List (List Bool)}{k m:Nat}{x0 x1:Operand}(ha0:ev (lk tsl) x0 = some (.own (k + a6) 0 m 1)) (ha1:ev (lk tsl) x1 = some (sl cB b))
  (hF : FamR R R hsl hsl) (hk : k < R.length) (hm : m = R[k]!.length) (hab : b.length ≤ R[k]!.length) (hl : R[k]!.length ≤ 1048576) (hM : Nat.ble (nidl + 0) a6 = true) (hN : Nat.blt d N = true) {md' : Md} [hmd : MdA md (fF [x0,x1] ++ [.inr (k + a6)]) [.inr (k + a6),.inl d] md']
  (kk : RW Tryz.prog N all Q md' rest ⟨(d,.tup []) :: tsl,(k + a6,some (flat cB (iD R[k]! b))) :: hsl,nidl + 0,z0⟩) : RW Tryz.prog N all Q md (⟨some d,.call ⟨.value (.func 126),#[x0,x1],tys⟩,ty,pos,af,none⟩ :: rest) ⟨tsl,hsl,nidl,z0⟩ :=
 Bt (a := R[k]!) (b := b) (i0 := k + a6) ha0 ha1 (hF.get hk) (EH R[k]! b m hm hab hl) hM hN (md' := md') (hmd := hmd) kk
theorem CJ (p:Prg) (Af Ap:List Nat) (hs:aR p.body ≤ 1048576) (w:WG p.types (aD p)) (hAf:sQ p.types (aD p) Af) (hAp:sR p.types (aD p) Ap):PC Tryz.prog 76 [bI p] (fun r => r = sl Rj ((List.range (aD p).length).map (iX p.types.length (aD p).length Af Ap))):=by
 have hpl := w.pl
 have hp0 := w.p0
 have htl := w.tl
 refine aB Tryz.func76 Tryz.ntmps76 ?_
 repeat' (first|(apply aF;(apply aA (k := 36);rfl;exact dH p hs;exact Pur.pf;rfl))|refine aE ?_|fail)
 refine eS (σ := Nat) (fun k => List.replicate ((p.types.length + 1) * k) (List.replicate (aD p).length false)) [1,3] [0] (fun k => [(5,iv (k : Int)),(4,.own 1 0 k 2)]) (fun k => [(1,some (flat (HO p.types.length (aD p).length) (List.range k)))]) (fun k => k ≤ (aD p).length) (fun k => (aD p).length - k) (0) (Nat.zero_le _) ?_
 intro k hk
 try dsimp only
 repeat' (first|(apply aF;first|(with_reducible apply aZ (d := 27))|(with_reducible apply aZ (d := 6)))|refine aE ?_|(refine aK ?_ ?_ <;> intro hc hq <;> try (exfalso;omega))|fail)
 ·have hrep : List.replicate ((p.types.length + 1) * k) (List.replicate (aD p).length false) ++ List.replicate (p.types.length + 1) (List.replicate (aD p).length false) = List.replicate ((p.types.length + 1) * (k + 1)) (List.replicate (aD p).length false) := by
   rw [List.replicate_append_replicate,Nat.mul_succ]
  refine bY ?_
  have hst := GR p.types.length (aD p).length htl hpl
  apply Ig (R := List.replicate ((p.types.length + 1) * k) (List.replicate (aD p).length false)) (avs := [iv (p.types.length : Int),iv ((aD p).length : Int)]) (rr' := O1 (k * (p.types.length + 1)) p.types.length (aD p).length) (h := hst)
  case ha => rfl
  case hp => rfl
  case hF => (repeat' (first|exact FamR.here|(apply FamR.cons;focus rfl)))
  case hz => rfl
  case hM => rfl
  case hN => rfl
  case hr =>
   refine .agg (.cons (.imm (rn_rows fun j hj => ?_)) (.cons (.own ?_) .nil))
   ·rw [if_pos (by rw [List.length_replicate]; omega)]; congr 1;rw [List.length_replicate,Nat.mul_comm]; omega
   ·rw [if_pos (by rw [List.length_replicate]; omega)]; congr 1;rw [List.length_replicate,Nat.mul_comm]; omega
  rw [hrep]
  repeat' (first|(apply aF;(apply bZ;rfl;rfl;rfl;rfl;rfl;(case hl => (simp [aI]; done));(rfl);omega;omega;(rfl);rfl;rfl))|refine aE ?_|fail)
  (apply bB (k + 1);focus (refine Le.renF0 [(0,0),(1,3)] (R := ?qA1) (hF := ?qF1) (hz := ?qz1) (hm := ?qm1) (hn := ?qn1) (h1 := ?q11) (h2 := ?q21);(case qF1 => (repeat' (first|exact FamR.here|(apply FamR.cons;focus rfl))));(case qz1 => (rfl));(case qm1 => rfl);(case qn1 => decide);all_goals (repeat' (first|exact trivial|refine And.intro ⟨_,rfl,?_⟩ ?_|refine And.intro ⟨_,_,rfl,rfl,?_⟩ ?_|exact RnL.purI inferInstance|exact RnV.purI inferInstance|exact RnV.own rfl|exact RnV.optr rfl|exact Io (by show a6 + (List.replicate ((p.types.length + 1) * (k + 1)) (List.replicate (aD p).length false)).length = _; rw [List.length_replicate,Nat.mul_comm])))))
  ·show k + 1 ≤ (aD p).length;omega
  ·show (aD p).length - (k + 1) < (aD p).length - k;omega
 ·have hkN : k = (aD p).length := by omega
  subst hkN
  refine bY (cX ?_ (Le.frzD (d := 4) (i := 1) rfl rfl))
  rw [Nat.mul_comm]
  repeat' (first|refine aE ?_|fail)
  refine eS (σ := List (List Bool) × Bool) (fun s => s.1) [1,3,4] [0] (fun s => [(6,bv s.2)]) (fun s => []) (fun s => FH p.types (aD p) s.1 s.2) (fun s => RB p.types (aD p) s.1 s.2) (List.replicate ((aD p).length * (p.types.length + 1)) (List.replicate (aD p).length false),true) (FH.init _ _) ?_
  rintro ⟨R,c⟩ hFH
  try dsimp only at hFH
  try dsimp only
  have hRl := hFH.d.lo
  have hRr := hFH.d.ro
  cases c with
  | false =>
   repeat' (first|refine aE ?_|fail)
   have hfin := hFH.final w hAf hAp
   refine aO (Le.frzAll (d := 2) (D := (List.range R.length).map fun k => k + a6) rfl (.imm (LdL.flt fun n hn => N8 (R := R) (M := (aD p).length) (by (repeat' (first|exact FamR.here|(apply FamR.cons;focus rfl)))) (fun k hk => List.mem_map.2 ⟨n * (p.types.length + 1) + k,by rw [List.mem_range,hRl]; exact gX (List.mem_range.1 hn) hk,rfl⟩) hRl (List.mem_range.1 hn) hRr))) ?_
   refine aC rfl ⟨?_,(by (exact bD _ _))⟩
   simp only [aM]
   have e1 : (List.range (aD p).length).map (fun n => (k4 p.types.length R n, lL p.types.length R n)) = (List.range (aD p).length).map (iX p.types.length (aD p).length Af Ap) := List.map_congr_left fun n hn => by
    have := hfin n (List.mem_range.1 hn)
    rw [this.1,this.2]
   have e2 : flat (fun n => [sl iF (k4 p.types.length R n), sl cB (lL p.types.length R n)]) (List.range (aD p).length) = flat Rj ((List.range (aD p).length).map (iX p.types.length (aD p).length Af Ap)) := by
    rw [← e1,flat,flat,List.flatMap_map]; rfl
   rw [e2]
   simp only [sl,List.length_map,List.length_range]
  | true =>
   have hst := hFH.start
   repeat' (first|refine aE ?_|fail)
   refine eS (σ := Nat × List (List Bool) × Bool) (fun s => s.2.1) [1,3,4] [0] (fun s => [(6,bv s.2.2),(7,iv (s.1 : Int))]) (fun s => []) (fun s => s.1 ≤ (aD p).length ∧ FS p.types (aD p) R s.2.1 s.2.2 (DF s.1 0)) (fun s => (aD p).length - s.1) (0,R,false) ⟨Nat.zero_le _,hst⟩ ?_
   rintro ⟨j,R1,c1⟩ ⟨hj,hS1⟩
   dsimp only at hj hS1
   have hl1 := hS1.d.lo
   try dsimp only
   by_cases hjn : j < (aD p).length
   ·have hnl := w.nl j hjn
    repeat' (first|(apply aF;first|(apply BH (k := 124) (R := R1) (avs0 := [sl cI p.types,sl b8 (aD p),iv (j : Int),O1 0 p.types.length (aD p).length]) (b := j * (p.types.length + 1)) (n1 := 0) (D := Ny (j * (p.types.length + 1))) (ws := []) (h := GP p.types (aD p) w j hjn R1 hS1.d) (rr' := .agg [sl iF (qT p.types (aD p) j (k4 p.types.length R1 j)),sl cB (qS p.types (aD p) j (lL p.types.length R1 j))]);(case ha => rfl);(case hF => (repeat' (first|exact FamR.here|(apply FamR.cons;focus rfl))));(case hb => (rw [lF hl1 hjn]; have := gX (v := p.types.length) hjn (Nat.lt_succ_self _);omega));(case hR => exact fun k hk => uI hl1 hjn (by rwa [lF hl1 hjn] at hk));(case hD => exact fun k hk => B0 (by rw [lF hl1 hjn] at hk;omega));(case har => exact .cons (RnV.purI inferInstance) (.cons (RnV.purI inferInstance) (.cons (RnV.purI inferInstance) (.cons (.agg (.cons (.imm (rn_rows fun k hk => (by rw [Nat.zero_add,nQ (by rw [lF hl1 hjn]; omega)]))) (.cons (.own (by rw [Nat.zero_add,nQ (by rw [lF hl1 hjn]; omega)])) .nil))) .nil))));(case hk => rfl);(case hr => exact RnV.purI inferInstance);(case hw => exact trivial);(case hM|hN => rfl))|(apply pA;rfl;rfl;(assumption);rfl;infer_instance;infer_instance;rfl)|(apply bC;rfl;rfl;rfl;rfl;rfl;(case hl => (simp;done));(exact (rfl:_=[_,_]))))|refine aE ?_|(refine aK ?_ ?_ <;> intro hc hq <;> try (exfalso;omega))|refine bH ?_|fail)
    refine eS (σ := Nat × List (List Bool) × Bool) (fun s => s.2.1) [1,3,4,7,8] [0,2] (fun s => [(6,bv s.2.2),(9,iv (s.1 : Int))]) (fun s => []) (fun s => s.1 ≤ (aD p)[j]!.next.length ∧ FS p.types (aD p) R s.2.1 s.2.2 (DF j s.1) ∧ (s.2.2 = false → s.2.1 = R1)) (fun s => (aD p)[j]!.next.length - s.1) (0,R1,c1) ⟨Nat.zero_le _,hS1,fun _ => rfl⟩ ?_
    rintro ⟨kk,R2,c2⟩ ⟨hk,hS2,hc2⟩
    dsimp only at hk hS2 hc2
    have hl2 := hS2.d.lo
    have hr2 := hS2.d.ro
    try dsimp only
    by_cases hkn : kk < (aD p)[j]!.next.length
    ·have hnx := w.nx j hjn _ (aS _ _ hkn)
     have hnn : ((aD p)[j]!.next[kk]!).toNat < (aD p).length := by omega
     have hix : ((aD p)[j]!.next[kk]!).toNat * (p.types.length + 1) + p.types.length < R2.length := by rw [hl2]; exact gX hnn (by omega)
     have hrix := hr2 _ hix
     have hqa := cR p.types (aD p) j (lL p.types.length R1 j)
     have hw1 := DT (qT p.types (aD p) j (k4 p.types.length R1 j)) (k4 p.types.length R2 ((aD p)[j]!.next[kk]!).toNat) (qS p.types (aD p) j (lL p.types.length R1 j)) (lL p.types.length R2 ((aD p)[j]!.next[kk]!).toNat) (by rw [cR]; exact hpl) (by rw [eG]; exact htl)
      (by rw [cR]; exact hr2 _ (by rw [hl2]; exact gX hnn (by omega))) (by rw [eG]; exact tT hl2 hnn) (fun v hv => by rw [eG] at hv;rw [cR]; exact Fi w hS1.d hjn hv) (fun v hv => by rw [eG] at hv;rw [cR,iI hl2 hnn hv]; exact hr2 _ (by rw [hl2]; exact gX hnn (by omega)))
     repeat' (first|(apply aF;first|((with_reducible apply m7 (k := 125) (D := Ny (((aD p)[j]!.next[kk]!).toNat * (p.types.length + 1))) (h := hw1));(case ha => rfl);(case hl => exact .cons (.pur (PurV.pf)) (.cons (.agg (N8 (R := R2) (M := (aD p).length) (by (repeat' (first|exact FamR.here|(apply FamR.cons;focus rfl)))) (fun k hk => B0 (by omega)) hl2 hnn hr2)) .nil));(case hfr|hN => rfl))|(apply wP;rfl;rfl;(case hF => (repeat' (first|exact FamR.here|(apply FamR.cons;focus rfl))));omega;omega;omega;omega;rfl;rfl)|(with_reducible apply aZ (d := 11))|(apply kH;rfl;rfl;(assumption);rfl;infer_instance;infer_instance;rfl))|refine aE ?_|(refine aK ?_ ?_ <;> intro hc hq <;> try (exfalso;omega))|refine bH ?_|fail)
     ·refine bY ?_
      apply cX
      case k =>
       apply Le.fset (R := R2) (hk := hix)
       (repeat' (first|exact FamR.here|(apply FamR.cons;focus rfl)))
      rw [Je hix]
      repeat' (first|refine aE ?_|fail)
      refine eS (σ := Nat) (fun v => Ch R2 (((aD p)[j]!.next[kk]!).toNat * (p.types.length + 1)) p.types.length (qT p.types (aD p) j (k4 p.types.length R1 j)) (qS p.types (aD p) j (lL p.types.length R1 j)) v) [1,3,4,7,8,9,10] [0,2] (fun v => [(11,iv (v : Int))]) (fun v => []) (fun v => v ≤ p.types.length) (fun v => p.types.length - v) (0) (Nat.zero_le _) ?_
      intro v hv
      try dsimp only
      have hjl := fQ R2 (((aD p)[j]!.next[kk]!).toNat * (p.types.length + 1)) p.types.length (qT p.types (aD p) j (k4 p.types.length R1 j)) (qS p.types (aD p) j (lL p.types.length R1 j)) v
      have hal := eG p.types (aD p) j (k4 p.types.length R1 j)
      by_cases hvn : v < p.types.length
      ·have hav := Fi w hS1.d hjn hvn
       have hjr : (Ch R2 (((aD p)[j]!.next[kk]!).toNat * (p.types.length + 1)) p.types.length (qT p.types (aD p) j (k4 p.types.length R1 j)) (qS p.types (aD p) j (lL p.types.length R1 j)) v)[((aD p)[j]!.next[kk]!).toNat * (p.types.length + 1) + v]!.length = (aD p).length := by
        rw [gJ _ _ _ _ _ _ _ (by omega),if_neg (by omega),if_neg (by omega)]; exact hr2 _ (by omega)
       repeat' (first|(apply aF;first|(apply wP;rfl;rfl;(case hF => (repeat' (first|exact FamR.here|(apply FamR.cons;focus rfl))));omega;omega;omega;omega;rfl;rfl)|(with_reducible apply aZ (d := 84))|(apply pA;rfl;rfl;(assumption);rfl;infer_instance;infer_instance;rfl)|(apply kH;rfl;rfl;(assumption);rfl;infer_instance;infer_instance;rfl))|refine aE ?_|(refine aK ?_ ?_ <;> intro hc hq <;> try (exfalso;omega))|refine bH ?_|fail)
       refine bY ?_
       apply cX
       case k =>
        apply Le.fset (R := Ch R2 (((aD p)[j]!.next[kk]!).toNat * (p.types.length + 1)) p.types.length (qT p.types (aD p) j (k4 p.types.length R1 j)) (qS p.types (aD p) j (lL p.types.length R1 j)) v) (hk := (by omega))
        (repeat' (first|exact FamR.here|(apply FamR.cons;focus rfl)))
       rw [Ib hix hvn]
       repeat' (first|refine aE ?_|fail)
       (apply bB (v + 1);focus (refine Le.renF0 [(0,0),(2,2)] (R := ?qA2) (hF := ?qF2) (hz := ?qz2) (hm := ?qm2) (hn := ?qn2) (h1 := ?q12) (h2 := ?q22);(case qF2 => (repeat' (first|exact FamR.here|(apply FamR.cons;focus rfl))));(case qz2 => (simp only [fQ]));(case qm2 => rfl);(case qn2 => decide);all_goals (repeat' (first|exact trivial|refine And.intro ⟨_,rfl,?_⟩ ?_|refine And.intro ⟨_,_,rfl,rfl,?_⟩ ?_|exact RnL.purI inferInstance|exact RnV.purI inferInstance|exact RnV.optr rfl|exact RnV.imm (rT (M := (aD p).length) (Nat.le_refl _) (by show a6 + (Ch _ _ _ _ _ _).length = _; rw [fQ,hl2]))))))
       ·show v + 1 ≤ p.types.length;omega
       ·show p.types.length - (v + 1) < p.types.length - v;omega
      ·repeat' (first | refine aE ?_ | (refine aK ?_ ?_ <;> intro hc hq <;> try (exfalso; omega))|fail)
       have hvN : v = p.types.length := by omega
       subst hvN
       have hw3 : Hb (qT p.types (aD p) j (k4 p.types.length R1 j)) (k4 p.types.length R2 ((aD p)[j]!.next[kk]!).toNat) (qS p.types (aD p) j (lL p.types.length R1 j)) (lL p.types.length R2 ((aD p)[j]!.next[kk]!).toNat) = false := by assumption
       (apply bB (kk + 1,_,true);focus (refine Le.renF0 [(0,0),(2,2)] (R := ?qA3) (hF := ?qF3) (hz := ?qz3) (hm := ?qm3) (hn := ?qn3) (h1 := ?q13) (h2 := ?q23);(case qF3 => (repeat' (first|exact FamR.here|(apply FamR.cons;focus rfl))));(case qz3 => (rfl));(case qm3 => rfl);(case qn3 => decide);all_goals (repeat' (first|exact trivial|refine And.intro ⟨_,rfl,?_⟩ ?_|refine And.intro ⟨_,_,rfl,rfl,?_⟩ ?_|exact RnL.purI inferInstance|exact RnV.purI inferInstance|exact RnV.optr rfl|exact RnV.imm (rT (M := (aD p).length) (Nat.le_refl _) (by show a6 + (Ch _ _ _ _ _ _).length = _; rw [fQ,hl2]))))))
       ·exact ⟨(by show kk + 1 ≤ (aD p)[j]!.next.length;omega),hS2.hit w (DF j (kk + 1)) hS1.d hjn hkn hw3,fun h => (by cases h)⟩
       ·show (aD p)[j]!.next.length - (kk + 1) < (aD p)[j]!.next.length - kk;omega
     ·(apply bB (kk + 1, R2, c2); focus (refine Le.renF0 [(0, 0), (2, 2)] (R := ?qA4) (hF := ?qF4) (hz := ?qz4) (hm := ?qm4) (hn := ?qn4) (h1 := ?q14) (h2 := ?q24); (case qF4 => (repeat' (first | exact FamR.here | (apply FamR.cons; focus rfl)))); (case qz4 => (rfl)); (case qm4 => rfl); (case qn4 => decide); all_goals (repeat' (first | exact trivial | refine And.intro ⟨_, rfl, ?_⟩ ?_ | refine And.intro ⟨_, _, rfl, rfl, ?_⟩ ?_ | exact RnL.purI inferInstance | exact RnV.purI inferInstance | exact RnV.optr rfl | exact RnV.imm (rT (M := (aD p).length) (Nat.le_refl _) (by show a6 + R2.length = _; rw [hl2]))))))
      ·refine ⟨(by show kk + 1 ≤ (aD p)[j]!.next.length;omega),hS2.skip (i := j) (k := kk) hc2 (by assumption) (fun i' k' _ _ hd => by unfold DF at hd ⊢; omega),hc2⟩
      ·show (aD p)[j]!.next.length - (kk + 1) < (aD p)[j]!.next.length - kk;omega
    ·repeat' (first | refine aE ?_ | (refine aK ?_ ?_ <;> intro hc hq <;> try (exfalso; omega))|fail)
     (apply bB (j + 1,R2,c2);focus (refine Le.renF0 [(0,0)] (R := ?qA5) (hF := ?qF5) (hz := ?qz5) (hm := ?qm5) (hn := ?qn5) (h1 := ?q15) (h2 := ?q25);(case qF5 => (repeat' (first|exact FamR.here|(apply FamR.cons;focus rfl))));(case qz5 => (rfl));(case qm5 => rfl);(case qn5 => decide);all_goals (repeat' (first|exact trivial|refine And.intro ⟨_,rfl,?_⟩ ?_|refine And.intro ⟨_,_,rfl,rfl,?_⟩ ?_|exact RnL.purI inferInstance|exact RnV.purI inferInstance|exact RnV.optr rfl|exact RnV.imm (rT (M := (aD p).length) (Nat.le_refl _) (by show a6 + R2.length = _; rw [hl2]))))))
     ·refine ⟨(by show j + 1 ≤ (aD p).length; omega), hS2.mono fun i' k' _ hk' hd => ?_⟩
      unfold DF at hd ⊢
      by_cases e : i' = j
      ·subst e;omega
      ·omega
     ·show (aD p).length - (j + 1) < (aD p).length - j;omega
   ·repeat' (first | refine aE ?_ | (refine aK ?_ ?_ <;> intro hc hq <;> try (exfalso; omega))|fail)
    (apply bB (R1,c1);focus (refine Le.renF0 [(0,0)] (R := ?qA6) (hF := ?qF6) (hz := ?qz6) (hm := ?qm6) (hn := ?qn6) (h1 := ?q16) (h2 := ?q26);(case qF6 => (repeat' (first|exact FamR.here|(apply FamR.cons;focus rfl))));(case qz6 => (rfl));(case qm6 => rfl);(case qn6 => decide);all_goals (repeat' (first|exact trivial|refine And.intro ⟨_,rfl,?_⟩ ?_|refine And.intro ⟨_,_,rfl,rfl,?_⟩ ?_|exact RnL.purI inferInstance|exact RnV.purI inferInstance|exact RnV.optr rfl|exact RnV.imm (rT (M := (aD p).length) (Nat.le_refl _) (by show a6 + R1.length = _; rw [hl1]))))))
    ·exact (hS1.fin (by omega)).1
    ·exact (hS1.fin (by omega)).2
instance (s : List (List Bool) × List Bool) : Pur (Rj s):=⟨by show ((sl iF s.1).pur && ((sl cB s.2).pur && true)) = true;rw [bD,bD]; rfl⟩
def Pc (ts : List Int) (pts : List Pnt) (Aa : List Nat) (i k : Nat) : List Iss := ((List.range k).filter (HC ts pts Aa i)).map (fun (v : Nat) => ⟨i,1,v⟩)
def P8 (pts : List Pnt) (cf : List Bool) (i k : Nat) : List Iss := ((List.range k).filter (fun (l : Nat) => cf[l]!)).map (fun (l : Nat) => ⟨i,Lp pts l,l⟩)
theorem LW {ts:List Int}{pts:List Pnt}{Aa:List Nat}{i k:Nat}(h:HC ts pts Aa i k = true):Pc ts pts Aa i (k + 1) = Pc ts pts Aa i k ++ [⟨i,1,k⟩]:=by
 unfold Pc;rw [jM,if_pos h,List.map_append]; rfl
theorem Ck {ts:List Int}{pts:List Pnt}{Aa:List Nat}{i k:Nat}(h:HC ts pts Aa i k = false):Pc ts pts Aa i (k + 1) = Pc ts pts Aa i k:=by
 unfold Pc;rw [jM,if_neg (by rw [h]; decide),List.append_nil]
theorem Fk {pts:List Pnt}{cf:List Bool}{i k:Nat}(h:cf[k]! = true):P8 pts cf i (k + 1) = P8 pts cf i k ++ [⟨i,Lp pts k,k⟩]:=by
 unfold P8;rw [jM,if_pos h,List.map_append]; rfl
theorem Jt {pts:List Pnt}{cf:List Bool}{i k:Nat}(h:cf[k]! = false):P8 pts cf i (k + 1) = P8 pts cf i k:=by
 unfold P8;rw [jM,if_neg (by rw [h]; decide),List.append_nil]
theorem Gy (p:Prg) (f:Flows p.types (aD p)) (hs:aR p.body ≤ 1048576) (w:WG p.types (aD p)) (hr:Rch (aD p)):PC Tryz.prog 64 [bI p,sl iF (dV p.types.length (aD p).length f.Al)] (fun r => r = sl iW f.iss):=by
 have hpl := w.pl
 have hp0 := w.p0
 have htl := w.tl
 have hfa := sD p true f.Aa hs w hr (by unfold uJ;exact f.ga)
 have hfm := sD p false f.Am hs w hr (by unfold uJ;exact f.gm)
 have hfl := CJ p f.Af f.Ap hs w f.gf f.gp
 have hra := iB p.types.length (aD p).length f.Aa
 have hrm := iB p.types.length (aD p).length f.Am
 have hrl := iB p.types.length (aD p).length f.Al
 have hfll : ((List.range (aD p).length).map (iX p.types.length (aD p).length f.Af f.Ap)).length = (aD p).length := by simp
 refine aB Tryz.func64 Tryz.ntmps64 ?_
 repeat' (first|(apply aF;first|(apply aA (k := 36);rfl;exact dH p hs;exact Pur.pf;rfl)|(apply aA (k := 106) (d := 20);rfl;exact hfa;exact Pur.pf;rfl)|(apply aA (k := 106) (d := 22);rfl;exact hfm;exact Pur.pf;rfl)|(apply aA (k := 76);rfl;exact hfl;exact Pur.pf;rfl))|refine aE ?_|fail)
 refine aH (σ := Nat × List Iss × Nat) [1,2,6,7,8,9] [0] (fun s => [(10,iv (s.1 : Int)),(5,.own 1 0 s.2.2 3)]) (fun s => [(1,some (flat iW s.2.1))]) (fun s => s.1 ≤ (aD p).length ∧ s.2.1 = pZ p.types (aD p) f.Aa f.Am f.Al f.Af f.Ap s.1 ∧ s.2.2 = s.2.1.length ∧ s.2.2 ≤ 67 * s.1) (fun s => (aD p).length - s.1) (0,[],0) ⟨Nat.zero_le _,rfl,rfl,Nat.le_refl _⟩ ?_
 rintro ⟨i,L,m⟩ ⟨hi,hL,hm,hmb⟩
 dsimp only at hi hL hm hmb
 try dsimp only
 by_cases hin : i < (aD p).length
 ·repeat' (first | refine aE ?_ | (refine aK ?_ ?_ <;> intro hc hq <;> try (exfalso; omega))|fail)
  refine aH (σ := Nat × List Iss × Nat) [1,2,6,7,8,9,10] [0] (fun s => [(11,iv (s.1 : Int)),(5,.own 1 0 s.2.2 3)]) (fun s => [(1,some (flat iW s.2.1))]) (fun s => s.1 ≤ p.types.length ∧ s.2.1 = L ++ Pc p.types (aD p) f.Aa i s.1 ∧ s.2.2 = s.2.1.length ∧ s.2.2 ≤ 67 * i + s.1) (fun s => p.types.length - s.1) (0,L,m) ⟨Nat.zero_le _,(List.append_nil L).symm,hm,hmb⟩ ?_
  rintro ⟨v,L2,m2⟩ ⟨hv,hL2,hm2,hmb2⟩
  dsimp only at hv hL2 hm2 hmb2
  try dsimp only
  by_cases hvn : v < p.types.length
  ·have hga := nW p.types.length (aD p).length f.Aa i v hin hvn
   have hgl : (dV p.types.length (aD p).length f.Aa)[i]!.length = p.types.length := by rw [hZ _ _ _ _ hin]; simp
   repeat' (first|(apply aF;(apply aA (k := 107);rfl;(apply lT <;> (omega));exact Pur.pf;rfl))|refine aE ?_|(refine aK ?_ ?_ <;> intro hc hq <;> try (exfalso;omega))|(refine bK ?_ ?_ <;> intro hg hq <;> try (exfalso;omega))|refine bH ?_|fail)
   ·(refine bB (v + 1, L2 ++ [⟨i, 1, v⟩], m2 + 1) (Le.renA [(0, 0), (1, 3)]) ?_ ?_)
    ·have hu : HC p.types (aD p) f.Aa i v = true := by
      unfold HC;rw [← hga,decide_eq_false (by assumption),(by assumption : (dV p.types.length (aD p).length f.Aa)[i]![v]! = false)]; rfl
     exact ⟨(by show v + 1 ≤ p.types.length;omega),(by show L2 ++ [⟨i,1,v⟩] = _; rw [hL2,List.append_assoc,← LW hu]),(by show m2 + 1 = (L2 ++ [_]).length;rw [List.length_append,List.length_singleton,hm2]),(by show m2 + 1 ≤ 67 * i + (v + 1);omega)⟩
    ·show p.types.length - (v + 1) < p.types.length - v;omega
   ·(refine bB (v + 1, L2, m2) (Le.renA [(0, 0), (1, 1)]) ?_ ?_)
    ·have hu : HC p.types (aD p) f.Aa i v = false := by
      unfold HC;rw [← hga,(by assumption : (dV p.types.length (aD p).length f.Aa)[i]![v]! = true)]; simp
     exact ⟨(by show v + 1 ≤ p.types.length;omega),(by show L2 = _; rw [Ck hu]; exact hL2),hm2,(by show m2 ≤ 67 * i + (v + 1);omega)⟩
    ·show p.types.length - (v + 1) < p.types.length - v;omega
   ·(refine bB (v + 1, L2, m2) (Le.renA [(0, 0), (1, 1)]) ?_ ?_)
    ·have hu : HC p.types (aD p) f.Aa i v = false := by
      unfold HC;rw [decide_eq_true (by assumption)]; rfl
     exact ⟨(by show v + 1 ≤ p.types.length;omega),(by show L2 = _; rw [Ck hu]; exact hL2),hm2,(by show m2 ≤ 67 * i + (v + 1);omega)⟩
    ·show p.types.length - (v + 1) < p.types.length - v;omega
  ·have hvN : v = p.types.length := by omega
   have hset := w.set i hin
   have hy := w.y i hin
   have hfi : ((List.range (aD p).length).map (iX p.types.length (aD p).length f.Af f.Ap))[i]! = iX p.types.length (aD p).length f.Af f.Ap i := bQ _ _ _ hin
   have hgm : (dV p.types.length (aD p).length f.Am)[i]!.length = p.types.length := by rw [hZ _ _ _ _ hin]; simp
   have hgl : (dV p.types.length (aD p).length f.Al)[i]!.length = p.types.length := by rw [hZ _ _ _ _ hin]; simp
   have hf2 : (iX p.types.length (aD p).length f.Af f.Ap i).2.length = (aD p).length := by simp [iX]
   have hf1 : (iX p.types.length (aD p).length f.Af f.Ap i).1.length = p.types.length := by simp [iX]
   have hf3 : ∀ v, v < p.types.length → (iX p.types.length (aD p).length f.Af f.Ap i).1[v]!.length = (iX p.types.length (aD p).length f.Af f.Ap i).2.length := fun v hv => by
    rw [hf2]; unfold iX;dsimp only;rw [bQ _ _ _ hv]; simp
   have hacc := zV p.types (aD p)[i]! (dV p.types.length (aD p).length f.Am)[i]! htl hgm hset.1 hy
   have hlv := Ij p.types (aD p)[i]! ((List.range (aD p).length).map (iX p.types.length (aD p).length f.Af f.Ap))[i]!.1 ((List.range (aD p).length).map (iX p.types.length (aD p).length f.Af f.Ap))[i]!.2 (dV p.types.length (aD p).length f.Al)[i]! htl (by rw [hfi,hf2]; exact hpl) hgl (by rw [hfi]; exact hf1) (by rw [hfi]; exact hf3)
   have hlvl : (HJ p.types (aD p)[i]! ((List.range (aD p).length).map (iX p.types.length (aD p).length f.Af f.Ap))[i]!.1 (dV p.types.length (aD p).length f.Al)[i]! ((List.range (aD p).length).map (iX p.types.length (aD p).length f.Af f.Ap))[i]!.2.length).length = (aD p).length := by unfold HJ;rw [List.length_map,List.length_range,hfi,hf2]
   have hcn := xB (aD p) (kC p.types (aD p)[i]! (dV p.types.length (aD p).length f.Am)[i]![(aQ (aD p)[i]!).toNat]!) ((List.range (aD p).length).map (iX p.types.length (aD p).length f.Af f.Ap))[i]!.1 ((List.range (aD p).length).map (iX p.types.length (aD p).length f.Af f.Ap))[i]!.2 (HJ p.types (aD p)[i]! ((List.range (aD p).length).map (iX p.types.length (aD p).length f.Af f.Ap))[i]!.1 (dV p.types.length (aD p).length f.Al)[i]! ((List.range (aD p).length).map (iX p.types.length (aD p).length f.Af f.Ap))[i]!.2.length) hpl (by have := Bh p.types (aD p)[i]! (dV p.types.length (aD p).length f.Am)[i]![(aQ (aD p)[i]!).toNat]!; omega) (by rw [hfi]; exact hf2) hlvl
   have hcf : Ql (aD p) (kC p.types (aD p)[i]! (dV p.types.length (aD p).length f.Am)[i]![(aQ (aD p)[i]!).toNat]!) ((List.range (aD p).length).map (iX p.types.length (aD p).length f.Af f.Ap))[i]!.2 (HJ p.types (aD p)[i]! ((List.range (aD p).length).map (iX p.types.length (aD p).length f.Af f.Ap))[i]!.1 (dV p.types.length (aD p).length f.Al)[i]! ((List.range (aD p).length).map (iX p.types.length (aD p).length f.Af f.Ap))[i]!.2.length) = Lj p.types (aD p) f.Am f.Al f.Af f.Ap i := by
    rw [hfi,hf2]; rfl
   have hcl : (Lj p.types (aD p) f.Am f.Al f.Af f.Ap i).length = (aD p).length := by unfold Lj;rw [zH]
   repeat' (first|(apply aF;first|(apply aA (k := 108);rfl;exact hacc;exact Pur.pf;rfl)|(apply aA (k := 110);rfl;exact hlv;exact Pur.pf;rfl)|(apply aA (k := 109);rfl;exact hcn;exact Pur.pf;rfl)|(with_reducible apply aZ (d := 14)))|refine aE ?_|(refine aK ?_ ?_ <;> intro hc hq <;> try (exfalso;omega))|refine bH ?_|fail)
   refine bY ?_
   rw [hcf]
   repeat' (first|refine aE ?_|fail)
   refine aH (σ := Nat × List Iss × Nat) [1,2,6,7,8,9,10,13] [0] (fun s => [(14,iv (s.1 : Int)),(5,.own 1 0 s.2.2 3)]) (fun s => [(1,some (flat iW s.2.1))]) (fun s => s.1 ≤ (aD p).length ∧ s.2.1 = L2 ++ P8 (aD p) (Lj p.types (aD p) f.Am f.Al f.Af f.Ap i) i s.1 ∧ s.2.2 = s.2.1.length ∧ s.2.2 ≤ 67 * i + 6 + s.1) (fun s => (aD p).length - s.1) (0,L2,m2) ⟨Nat.zero_le _,(List.append_nil L2).symm,hm2,by show m2 ≤ 67 * i + 6 + 0;omega⟩ ?_
   rintro ⟨l,L3,m3⟩ ⟨hl,hL3,hm3,hmb3⟩
   dsimp only at hl hL3 hm3 hmb3
   try dsimp only
   by_cases hln : l < (aD p).length
   ·repeat' (first | refine aE ?_ | (refine aK ?_ ?_ <;> intro hc hq <;> try (exfalso; omega))|fail)
    ·(refine bB (l + 1, L3, m3) (Le.renA [(0, 0), (1, 1)]) ?_ ?_)
     ·exact ⟨(by show l + 1 ≤ (aD p).length;omega),(by show L3 = _; rw [Jt (by assumption)]; exact hL3),hm3,(by show m3 ≤ 67 * i + 6 + (l + 1);omega)⟩
     ·show (aD p).length - (l + 1) < (aD p).length - l;omega
    ·(refine bB (l + 1, L3 ++ [⟨i, 3, l⟩], m3 + 1) (Le.renA [(0, 0), (1, 3)]) ?_ ?_)
     ·have hk : Lp (aD p) l = 3 := by unfold Lp; rw [if_pos (by assumption)]
      exact ⟨(by show l + 1 ≤ (aD p).length;omega),(by show L3 ++ [⟨i,3,l⟩] = _; rw [hL3,List.append_assoc,← hk,← Fk (by assumption)]),(by show m3 + 1 = (L3 ++ [_]).length;rw [List.length_append,List.length_singleton,hm3]),(by show m3 + 1 ≤ 67 * i + 6 + (l + 1);omega)⟩
     ·show (aD p).length - (l + 1) < (aD p).length - l;omega
    ·(refine bB (l + 1, L3 ++ [⟨i, 2, l⟩], m3 + 1) (Le.renA [(0, 0), (1, 3)]) ?_ ?_)
     ·have hk : Lp (aD p) l = 2 := by unfold Lp; rw [if_neg (by assumption)]
      exact ⟨(by show l + 1 ≤ (aD p).length;omega),(by show L3 ++ [⟨i,2,l⟩] = _; rw [hL3,List.append_assoc,← hk,← Fk (by assumption)]),(by show m3 + 1 = (L3 ++ [_]).length;rw [List.length_append,List.length_singleton,hm3]),(by show m3 + 1 ≤ 67 * i + 6 + (l + 1);omega)⟩
     ·show (aD p).length - (l + 1) < (aD p).length - l;omega
   ·repeat' (first | refine aE ?_ | (refine aK ?_ ?_ <;> intro hc hq <;> try (exfalso; omega))|fail)
    (refine bB (i + 1,L3,m3) (Le.renA [(0,0),(1,1)]) ?_ ?_)
    ·refine ⟨(by show i + 1 ≤ (aD p).length; omega), ?_, hm3, (by show m3 ≤ 67 * (i + 1); omega)⟩
     show L3 = pZ p.types (aD p) f.Aa f.Am f.Al f.Af f.Ap (i + 1)
     rw [n5,← Dx w f hin,hL3,hL2,hL,hvN,show l = (aD p).length by omega,List.append_assoc]
     rfl
    ·show (aD p).length - (i + 1) < (aD p).length - i;omega
 ·repeat' (first | refine aE ?_ | (refine aK ?_ ?_ <;> intro hc hq <;> try (exfalso; omega))|fail)
  have hiN : i = (aD p).length := by omega
  refine aO (Le.frzD (d := 4) (i := 1) rfl rfl) ?_
  refine aC rfl ⟨?_,(by (exact bD _ _))⟩
  simp only [aM]
  rw [hm,hL,hiN]; rfl
theorem uH (p:Prg) (f:Flows p.types (aD p)) (hl:p.types.length ≤ 1048576) (hs:aR p.body ≤ 1048576):PC Tryz.prog 26 [bI p] (fun r => r = sl iW (H3 p f)):=by
 unfold H3
 cases hv : bE p
 ·have hval := jU p hl (by omega)
  rw [hv] at hval
  refine aB Tryz.func26 Tryz.ntmps26 ?_
  repeat' (first|(apply aF;first|(apply aA (k := 63);rfl;exact hval;exact Pur.pf;rfl)|(apply aJ (t := _);rfl;rfl;rfl;(rfl);rfl;rfl))|refine aE ?_|fail)
  exact aC rfl ⟨rfl,rfl⟩
 ·have w := WG.of_valid hv
  have hr := Rch.of p
  have hval := jU p hl (by omega)
  rw [hv] at hval
  have hlv := Kl p f.Al hs w f.gl
  have hck := Gy p f hs w hr
  refine aB Tryz.func26 Tryz.ntmps26 ?_
  repeat' (first|(apply aF;first|(apply aA (k := 63);rfl;exact hval;exact Pur.pf;rfl)|(apply aA (k := 65);rfl;exact hlv;exact Pur.pf;rfl)|(apply aA (k := 64);rfl;exact hck;exact Pur.pf;rfl))|refine aE ?_|refine bH ?_|fail)
  exact aC rfl ⟨rfl,(by (exact bD _ _))⟩
abbrev eT (bs : List UInt8) (p : Nat) : List AV := [sl cU bs,iv (p : Int)]
def N9 (bs : List UInt8) (q : Int) : Int := ((bs[(q % (bs.length : Int)).toNat]!).toNat : Int) * 131 + ((bs[((q * 7 + 3) % (bs.length : Int)).toNat]!).toNat : Int) * 1117 + q * 29 + q / (bs.length : Int) * 53
def bJ (bs : List UInt8) (p : Nat) (n : Int) : Int :=
 if n < 1 then 0 else if (bs.length : Int) = 0 then 0 else
 if (p : Int) + 1 - 1 < (bs.length : Int) then ((bs[((p : Int) + 1 - 1).toNat]!).toNat : Int) % n
 else (((N9 bs ((p : Int) + 1 - 1)).toNat ^^^ (N9 bs ((p : Int) + 1 - 1) / 64).toNat : Nat) : Int) % n
theorem dO (bs:List UInt8) (p:Nat) (n:Int):0 ≤ bJ bs p n ∧ (bJ bs p n < n ∨ n < 1 ∧ bJ bs p n = 0):=by
 unfold bJ
 split
 ·omega
 ·split
  ·omega
  ·split
   ·exact ⟨Int.emod_nonneg _ (by omega),.inl (Int.emod_lt_of_pos _ (by omega))⟩
   ·exact ⟨Int.emod_nonneg _ (by omega),.inl (Int.emod_lt_of_pos _ (by omega))⟩
def jC (bs : List UInt8) (p : Nat) (xs : List Int) : Int := xs[(bJ bs p (xs.length : Int)).toNat]!
class NumL (cs : List AV) (xs : outParam (List Int)) : Prop where h : cs = flat cI xs
instance NumL.nil : NumL [] []:=⟨rfl⟩
instance NumL.cons {n : Int} {cs : List AV} {xs : List Int} [h : NumL cs xs] : NumL (.v (.int .i64 n) :: cs) (n :: xs):=⟨by rw [h.h]; rfl⟩
theorem lQ {bs:List UInt8}{p:Nat}{n:Int}{x0 x1:Operand}{i0:Nat}(ha0:ev (lk tsl) x0 = some (.optr i0 0)) (ha1:ev (lk tsl) x1 = some (iv n)) (hH0:aT hsl i0 = some (eT bs p)) (hmc:MC Tryz.prog 27 [.optr 0 0,iv n] [(0,some (eT bs p))] 1 (fun _:Unit => True) (fun _ => iv (bJ bs p n)) (fun _ => [(0,some (eT bs (p + 1)))])) (hM:Nat.ble (nidl + 0) a6 = true) (hN:Nat.blt d N = true){md':Md}[hmd:MdA md (fF [x0,x1] ++ [.inr i0]) (List.map Sum.inr (List.map Prod.fst ([(i0,some (eT bs (p + 1)))]:List (Nat × Option (List AV)))) ++ [.inl d]) md'] (kk:RW Tryz.prog N all Q md' rest ⟨(d,iv (bJ bs p n)) :: tsl,gD hsl [(i0,some (eT bs (p + 1)))],nidl + 0,z0⟩):RW Tryz.prog N all Q md (⟨some d,.call ⟨.value (.func 27),#[x0,x1],tys⟩,ty,pos,af,none⟩ :: rest) ⟨tsl,hsl,nidl,z0⟩:=by
 exact aX (l := [x0,x1]) [i0] 1 [(i0,some (eT bs (p + 1)))] hmc (avs := [.optr i0 0,iv n]) (by simp only [evL,ha0,ha1]) rfl hM hN (md' := md') (hmd := hmd) kk
theorem M8 {bs:List UInt8}{p:Nat}{xs:List Int}{x0 x1:Operand}{i0:Nat}(ha0:ev (lk tsl) x0 = some (.optr i0 0)) (ha1:ev (lk tsl) x1 = some (sl cI xs)) (hH0:aT hsl i0 = some (eT bs p)) (hmc:MC Tryz.prog 59 [.optr 0 0,sl cI xs] [(0,some (eT bs p))] 1 (fun _:Unit => True) (fun _ => iv (jC bs p xs)) (fun _ => [(0,some (eT bs (p + 1)))])) (hM:Nat.ble (nidl + 0) a6 = true) (hN:Nat.blt d N = true){md':Md}[hmd:MdA md (fF [x0,x1] ++ [.inr i0]) (List.map Sum.inr (List.map Prod.fst ([(i0,some (eT bs (p + 1)))]:List (Nat × Option (List AV)))) ++ [.inl d]) md'] (kk:RW Tryz.prog N all Q md' rest ⟨(d,iv (jC bs p xs)) :: tsl,gD hsl [(i0,some (eT bs (p + 1)))],nidl + 0,z0⟩):RW Tryz.prog N all Q md (⟨some d,.call ⟨.value (.func 59),#[x0,x1],tys⟩,ty,pos,af,none⟩ :: rest) ⟨tsl,hsl,nidl,z0⟩:=by
 exact aX (l := [x0,x1]) [i0] 1 [(i0,some (eT bs (p + 1)))] hmc (avs := [.optr i0 0,sl cI xs]) (by simp only [evL,ha0,ha1]) rfl hM hN (md' := md') (hmd := hmd) kk
theorem JS {bs:List UInt8}{p:Nat}{xs:List Int}{x0 x1:Operand}{i0 i1:Nat}(ha0:ev (lk tsl) x0 = some (.optr i0 0)) (ha1:ev (lk tsl) x1 = some (.own i1 0 xs.length 1)) (hH0:aT hsl i0 = some (eT bs p)) (hH1:aT hsl i1 = some (flat cI xs)) (hdd:Go.AL.distinct [i0,i1] = true) (hmc:MC Tryz.prog 59 [.optr 0 0,.own 1 0 xs.length 1] [(0,some (eT bs p)),(1,some (flat cI xs))] 2 (fun _:Unit => True) (fun _ => iv (jC bs p xs)) (fun _ => [(0,some (eT bs (p + 1)))])) (hM:Nat.ble (nidl + 0) a6 = true) (hN:Nat.blt d N = true){md':Md}[hmd:MdA md (fF [x0,x1] ++ [.inr i0,.inr i1]) (List.map Sum.inr (List.map Prod.fst ([(i0,some (eT bs (p + 1))),(i1,none)]:List (Nat × Option (List AV)))) ++ [.inl d]) md'] (kk:RW Tryz.prog N all Q md' rest ⟨(d,iv (jC bs p xs)) :: tsl,gD hsl [(i0,some (eT bs (p + 1))),(i1,none)],nidl + 0,z0⟩):RW Tryz.prog N all Q md (⟨some d,.call ⟨.value (.func 59),#[x0,x1],tys⟩,ty,pos,af,none⟩ :: rest) ⟨tsl,hsl,nidl,z0⟩:=by
 exact aX (l := [x0,x1]) [i0,i1] 2 [(i0,some (eT bs (p + 1))),(i1,none)] hmc (avs := [.optr i0 0,.own i1 0 xs.length 1]) (by simp only [evL,ha0,ha1]) hdd hM hN (md' := md') (hmd := hmd) kk
theorem o6 (bs:List UInt8) (p:Nat) (n:Int) (hb:bs.length ≤ 2000) (hp:p ≤ 1048576) (hn0:0 ≤ n) (hn:n ≤ 1048576):MC Tryz.prog 27 [.optr 0 0,iv n] [(0,some (eT bs p))] 1 (fun _:Unit => True) (fun _ => iv (bJ bs p n)) (fun _ => [(0,some (eT bs (p + 1)))]):=by
 have hdiv : 0 ≤ ((p : Int) + 1 - 1) / (bs.length : Int) ∧ ((p : Int) + 1 - 1) / (bs.length : Int) ≤ p + 1 - 1 := ⟨Int.ediv_nonneg (by omega) (by omega),Int.ediv_le_self _ (by omega)⟩
 refine aU Tryz.func27 Tryz.ntmps27 ?_
 repeat' (first|(apply aF;(apply JN;rfl;rfl;(case' kk => intro hbd)))|refine aE ?_|(refine aK ?_ ?_ <;> intro hc hq <;> try (exfalso;omega))|(refine bK ?_ ?_ <;> intro hg hq <;> try (exfalso;omega))|refine bH ?_|fail)
 all_goals (refine aC rfl ?_; refine aP () trivial ?_ ⟨sE ?_,trivial⟩)
 all_goals first|rfl|skip
 all_goals simp only [aM,AV.v.injEq,Value.int.injEq,true_and,bJ]
 ·rw [if_neg (by omega),if_pos (by omega)]
 ·rw [if_neg (by omega),if_neg (by omega),if_pos (by omega)]
 ·rw [if_neg (by omega),if_neg (by omega),if_neg (by omega)]; rfl
 ·rw [if_pos (by omega)]
theorem PQ (bs:List UInt8) (p:Nat) (xs:List Int) (hb:bs.length ≤ 2000) (hp:p ≤ 1048576) (h0:0 < xs.length) (hn:xs.length ≤ 1048576):MC Tryz.prog 59 [.optr 0 0,sl cI xs] [(0,some (eT bs p))] 1 (fun _:Unit => True) (fun _ => iv (jC bs p xs)) (fun _ => [(0,some (eT bs (p + 1)))]):=by
 have hpf := dO bs p xs.length
 refine aU Tryz.func59 Tryz.ntmps59 ?_
 repeat' (first|(apply aF;(apply lQ;rfl;rfl;(rfl);(apply o6 <;> (first|assumption|omega));rfl;rfl))|refine aE ?_|fail)
 (refine aC rfl ?_; refine aP () trivial ?_ ⟨sE ?_,trivial⟩)
 ·rfl
 ·rfl
theorem Pj {Q:Exit → AS → Prop}{all:Array Oper}{rest:List Oper}{N:Nat}{tsl:List (Nat × AV)}{hsl:List (Nat × Option (List AV))}{nidl:Nat}{z0:Lo}{md:Md}{d:Nat}{ty:TypeId}{pos:String}{af:Array Edge}{tys:Array TypeId}
  {bs : List UInt8} {p m : Nat} {cs : List AV} {xs : List Int} {x0 x1 : Operand} {i0 : Nat} (ha0 : ev (lk tsl) x0 = some (.optr i0 0)) (ha1 : ev (lk tsl) x1 = some (.imm m cs)) (hcs : NumL cs xs) (hH0 : aT hsl i0 = some (eT bs p))
  (hm : m = xs.length) (hb : bs.length ≤ 2000) (hp : p ≤ 1048576) (h0 : 0 < xs.length) (hn : xs.length ≤ 1048576) (hM : Nat.ble (nidl + 0) a6 = true) (hN : Nat.blt d N = true) {md' : Md}
  [hmd : MdA md (fF [x0,x1] ++ [.inr i0]) [.inr i0,.inl d] md']
  (kk : RW Tryz.prog N all Q md' rest ⟨(d,iv (jC bs p xs)) :: tsl,(i0,some (eT bs (p + 1))) :: hsl,nidl + 0,z0⟩) : RW Tryz.prog N all Q md (⟨some d,.call ⟨.value (.func 59),#[x0,x1],tys⟩,ty,pos,af,none⟩ :: rest) ⟨tsl,hsl,nidl,z0⟩ := by
 have h := hcs.h
 subst hm h
 exact M8 ha0 ha1 hH0 (PQ bs p xs hb hp h0 hn) hM hN (hmd := hmd) kk
theorem NT (bs:List UInt8) (p:Nat) (xs:List Int) (hb:bs.length ≤ 2000) (hp:p ≤ 1048576) (h0:0 < xs.length) (hn:xs.length ≤ 1048576):MC Tryz.prog 59 [.optr 0 0,.own 1 0 xs.length 1] [(0,some (eT bs p)),(1,some (flat cI xs))] 2 (fun _:Unit => True) (fun _ => iv (jC bs p xs)) (fun _ => [(0,some (eT bs (p + 1)))]):=by
 have hpf := dO bs p xs.length
 refine aU Tryz.func59 Tryz.ntmps59 ?_
 repeat' (first|(apply aF;(apply lQ;rfl;rfl;(rfl);(apply o6 <;> (first|assumption|omega));rfl;rfl))|refine aE ?_|fail)
 (refine aC rfl ?_; refine aP () trivial ?_ ⟨sE ?_,trivial⟩)
 ·rfl
 ·rfl
theorem Ft {Q:Exit → AS → Prop}{all:Array Oper}{rest:List Oper}{N:Nat}{tsl:List (Nat × AV)}{hsl:List (Nat × Option (List AV))}{nidl:Nat}{z0:Lo}{md:Md}{d:Nat}{ty:TypeId}{pos:String}{af:Array Edge}{tys:Array TypeId}
  {bs : List UInt8} {p m : Nat} {cs : List AV} {xs : List Int} {x0 x1 : Operand} {i0 i1 : Nat} (ha0 : ev (lk tsl) x0 = some (.optr i0 0)) (ha1 : ev (lk tsl) x1 = some (.own i1 0 m 1)) (hH0 : aT hsl i0 = some (eT bs p)) (hH1 : aT hsl i1 = some cs) (hcs : NumL cs xs)
  (hdd : Go.AL.distinct [i0,i1] = true) (hm : m = xs.length) (hb : bs.length ≤ 2000) (hp : p ≤ 1048576) (h0 : 0 < xs.length) (hn : xs.length ≤ 1048576) (hM : Nat.ble (nidl + 0) a6 = true) (hN : Nat.blt d N = true) {md' : Md}
  [hmd : MdA md (fF [x0,x1] ++ [.inr i0,.inr i1]) [.inr i0,.inr i1,.inl d] md']
  (kk : RW Tryz.prog N all Q md' rest ⟨(d,iv (jC bs p xs)) :: tsl,gD hsl [(i0,some (eT bs (p + 1))),(i1,none)],nidl + 0,z0⟩) : RW Tryz.prog N all Q md (⟨some d,.call ⟨.value (.func 59),#[x0,x1],tys⟩,ty,pos,af,none⟩ :: rest) ⟨tsl,hsl,nidl,z0⟩ := by
 have h := hcs.h
 subst hm h
 exact JS ha0 ha1 hH0 hH1 hdd (NT bs p xs hb hp h0 hn) hM hN (hmd := hmd) kk
theorem PO (bs:List UInt8) (hb:bs.length ≤ 1048576):MC Tryz.prog 23 [sl cU bs] [] 0 (fun _:Unit => True) (fun _ => .optr 0 0) (fun _ => [(0,some (eT (bs.take 2000) 0))]):=by
 refine aU Tryz.func23 Tryz.ntmps23 ?_
 repeat' (first|refine aE ?_|(refine aK ?_ ?_ <;> intro hc hq <;> try (exfalso;omega))|fail)
 ·(refine aC rfl ?_; refine aP () trivial ?_ ⟨sE ?_, trivial⟩)
  ·rfl
  ·rfl
 ·(refine aC rfl ?_; refine aP () trivial ?_ ⟨sE ?_, trivial⟩)
  ·rfl
  ·rw [List.take_of_length_le (by omega)]; rfl
def st (op x y n : Int) : AL.Stmt := .mk op x y n [] []
def kN (bs : List UInt8) (p : Nat) : AL.Stmt × Nat :=
 let box := 1 + bJ bs p 2
 let owner := jC bs (p + 1) [1,2,1,4,5]
 let c := bJ bs (p + 1 + 1) 11
 if c = 0 then (st 1 0 0 (bJ bs (p + 1 + 1 + 1) 10),p + 4)
 else if c = 1 then (st 2 box 0 (bJ bs (p + 1 + 1 + 1) 10),p + 4)
 else if c = 2 then (st 3 box (3 - box) 0,p + 3)
 else if c = 3 then (st 4 3 owner 0,p + 3)
 else if c = 4 ∨ c = 5 then (st 5 4 (jC bs (p + 1 + 1 + 1) [1,2,1,5]) 0,p + 4)
 else if c = 6 then (st 6 0 (jC bs (p + 1 + 1 + 1) [3,4,1,2,5]) 0,p + 4)
 else if c = 7 then (st 7 (jC bs (p + 1 + 1 + 1) [4,1,2,5]) 0 0,p + 4)
 else if c = 8 then (st 8 box 0 0,p + 3)
 else (st 5 5 (jC bs (p + 1 + 1 + 1) [4,1,2]) 0,p + 4)
def iO (one : Nat → AL.Stmt × Nat) (s : AL.Stmt) (p : Nat) : Nat → List AL.Stmt × Nat
 | 0 => ([s],p)
 | k + 1 => ((iO one s p k).1 ++ [(one (iO one s p k).2).1],(one (iO one s p k).2).2)
def w7 (bs : List UInt8) : Nat → Nat → AL.Stmt × Nat
 | 0,p => kN bs p
 | d + 1, p =>
  let c := bJ bs (p + 1 + 1) 11
  if c = 9 then
   let r := iO (w7 bs d) (st 2 1 0 (bJ bs (p + 1 + 1 + 1 + 1) 10)) (p + 1 + 1 + 1 + 1 + 1) (bJ bs (p + 1 + 1 + 1) 3).toNat
   let e := kN bs r.2
   (.mk 9 0 0 0 r.1 [e.1],e.2)
  else if c = 10 then
   let a := kN bs (p + 1 + 1 + 1)
   let b := kN bs a.2
   (.mk 10 0 0 0 [a.1,b.1] [],b.2)
  else kN bs p
def eR (bs : List UInt8) (d : Int) (p : Nat) : AL.Stmt × Nat := w7 bs d.toNat p
def dP (bs : List UInt8) (d n : Int) (p : Nat) : List AL.Stmt × Nat := iO (eR bs d) (st 2 1 0 (bJ bs p 10)) (p + 1) n.toNat
theorem uT (bs:List UInt8) (p:Nat):(kN bs p).2 ≤ p + 4:=by
 unfold kN;dsimp only;repeat' split
 all_goals omega
theorem uQ (bs:List UInt8) (p:Nat):cH (kN bs p).1 = 1:=by
 unfold kN st;dsimp only;repeat' split
 all_goals simp [cH,aR]
theorem Ah {one:Nat → AL.Stmt × Nat}{c:Nat}(h:∀ p,(one p).2 ≤ p + c) (s:AL.Stmt) (p:Nat):∀ k,(iO one s p k).2 ≤ p + k * c
 | 0 => by simp [iO]
 | k + 1 => by
  have := Ah h s p k
  have := h (iO one s p k).2
  simp only [iO,Nat.succ_mul]; omega
theorem zY {one:Nat → AL.Stmt × Nat}{c:Nat}(h:∀ p,cH (one p).1 ≤ c) (s:AL.Stmt) (p:Nat):∀ k,aR (iO one s p k).1 ≤ cH s + k * c
 | 0 => by simp [iO,aR]
 | k + 1 => by
  have := zY h s p k
  have := h (iO one s p k).2
  simp only [iO,Nat.succ_mul,fZ,aR]; omega
def B8 : Nat → Nat
 | 0 => 4
 | d + 1 => 9 + 2 * B8 d
def Ga : Nat → Nat
 | 0 => 1
 | d + 1 => 3 + 2 * Ga d
theorem k3 (bs:List UInt8) (p:Nat):(bJ bs p 3).toNat ≤ 2 := by have := dO bs p 3;omega
theorem Jx (bs:List UInt8):∀ d p,(w7 bs d p).2 ≤ p + B8 d
 | 0,p => uT bs p
 | d + 1, p => by
  have h0 := uT bs p
  have h1 := Ah (Jx bs d) (st 2 1 0 (bJ bs (p + 1 + 1 + 1 + 1) 10)) (p + 1 + 1 + 1 + 1 + 1) (bJ bs (p + 1 + 1 + 1) 3).toNat
  have h2 := k3 bs (p + 1 + 1 + 1)
  have h3 : (bJ bs (p + 1 + 1 + 1) 3).toNat * B8 d ≤ 2 * B8 d := Nat.mul_le_mul_right _ h2
  have h4 := uT bs (iO (w7 bs d) (st 2 1 0 (bJ bs (p + 1 + 1 + 1 + 1) 10)) (p + 1 + 1 + 1 + 1 + 1) (bJ bs (p + 1 + 1 + 1) 3).toNat).2
  have h5 := uT bs (p + 1 + 1 + 1)
  have h6 := uT bs (kN bs (p + 1 + 1 + 1)).2
  have h7 : 1 ≤ B8 d := by cases d <;> simp only [B8] <;> omega
  simp only [w7,B8]
  split
  ·dsimp only;omega
  ·split
   ·dsimp only;omega
   ·omega
theorem Iz (bs:List UInt8):∀ d p,cH (w7 bs d p).1 ≤ Ga d
 | 0,p => by rw [w7,uQ]; decide
 | d + 1, p => by
  have h0 := uQ bs p
  have h1 := zY (Iz bs d) (st 2 1 0 (bJ bs (p + 1 + 1 + 1 + 1) 10)) (p + 1 + 1 + 1 + 1 + 1) (bJ bs (p + 1 + 1 + 1) 3).toNat
  have h2 := k3 bs (p + 1 + 1 + 1)
  have h3 : (bJ bs (p + 1 + 1 + 1) 3).toNat * Ga d ≤ 2 * Ga d := Nat.mul_le_mul_right _ h2
  have h4 := uQ bs (iO (w7 bs d) (st 2 1 0 (bJ bs (p + 1 + 1 + 1 + 1) 10)) (p + 1 + 1 + 1 + 1 + 1) (bJ bs (p + 1 + 1 + 1) 3).toNat).2
  have h5 := uQ bs (p + 1 + 1 + 1)
  have h6 := uQ bs (kN bs (p + 1 + 1 + 1)).2
  have h7 : cH (st 2 1 0 (bJ bs (p + 1 + 1 + 1 + 1) 10)) = 1 := by simp [st,cH,aR]
  simp only [w7,Ga]
  split
  ·simp only [cH,aR]; omega
  ·split
   ·simp only [cH,aR]; omega
   ·omega
theorem JK (bs:List UInt8){d:Int}(h:d ≤ 2) (p:Nat):(eR bs d p).2 ≤ p + 43:=by
 have h1 := Jx bs d.toNat p
 have h2 : B8 d.toNat ≤ 43 := by
  have : d.toNat = 0 ∨ d.toNat = 1 ∨ d.toNat = 2 := by omega
  rcases this with h|h|h <;> rw [h] <;> decide
 exact Nat.le_trans h1 (by omega)
theorem Pg (bs:List UInt8){d:Int}(h:d ≤ 2) (p:Nat):cH (eR bs d p).1 ≤ 13:=by
 have h1 := Iz bs d.toNat p
 have h2 : Ga d.toNat ≤ 13 := by
  have : d.toNat = 0 ∨ d.toNat = 1 ∨ d.toNat = 2 := by omega
  rcases this with h|h|h <;> rw [h] <;> decide
 exact Nat.le_trans h1 h2
theorem xU {one:Nat → AL.Stmt × Nat}(s:AL.Stmt) (p:Nat):∀ k,(iO one s p k).1.length = k + 1
 | 0 => rfl
 | k + 1 => by simp only [iO,List.length_append,xU s p k,List.length_cons,List.length_nil]
theorem Hq (bs:List UInt8) (d:Int) (n p:Nat):(dP bs d (n:Int) p).1.length = n + 1 := xU _ _ _
theorem Mr (bs:List UInt8) (d:Int) (k p:Nat):dP bs d ((k + 1:Nat):Int) p = ((dP bs d (k:Int) p).1 ++ [(eR bs d (dP bs d (k:Int) p).2).1],(eR bs d (dP bs d (k:Int) p).2).2) := rfl
theorem BD {xs:List AL.Stmt}{m:Nat}{s:AL.Stmt}(hm:m = xs.length):((flat aN xs).drop 0).take (m * 6) ++ [iv s.op,iv s.x,iv s.y,iv s.n,sl aN s.th,sl aN s.el] = flat aN (xs ++ [s]) := fJ hm (c9 s).symm
def RE (s : AL.Stmt) (a : Int) : AL.Stmt := .mk a s.x s.y s.n s.th s.el
def uX (s : AL.Stmt) (a : Int) : AL.Stmt := .mk s.op a s.y s.n s.th s.el
def uY (s : AL.Stmt) (a : Int) : AL.Stmt := .mk s.op s.x a s.n s.th s.el
def uN (s : AL.Stmt) (a : Int) : AL.Stmt := .mk s.op s.x s.y a s.th s.el
theorem PM {xs:List AL.Stmt}{k:Nat}{a:Int}(hk:k < xs.length):gW (flat aN xs) (0 + k * 6 + 0) [iv a] = flat aN (xs.set k (RE xs[k]! a)) := eI hk (by simp) (by rw [c9,c9]; rfl)
theorem QU {xs:List AL.Stmt}{k:Nat}{a:Int}(hk:k < xs.length):gW (flat aN xs) (0 + k * 6 + 1) [iv a] = flat aN (xs.set k (uX xs[k]! a)) := eI hk (by simp) (by rw [c9,c9]; rfl)
theorem QJ {xs:List AL.Stmt}{k:Nat}{a:Int}(hk:k < xs.length):gW (flat aN xs) (0 + k * 6 + 2) [iv a] = flat aN (xs.set k (uY xs[k]! a)) := eI hk (by simp) (by rw [c9,c9]; rfl)
theorem Rt {xs:List AL.Stmt}{k:Nat}{a:Int}(hk:k < xs.length):gW (flat aN xs) (0 + k * 6 + 3) [iv a] = flat aN (xs.set k (uN xs[k]! a)) := eI hk (by simp) (by rw [c9,c9]; rfl)
theorem Ar (bs:List UInt8){d:Int}(h:d ≤ 2) (n:Int) (p:Nat):(dP bs d n p).2 ≤ p + 1 + n.toNat * 43 := Ah (JK bs h) _ _ _
theorem MW (bs:List UInt8){d:Int}(h:d ≤ 2) (n:Int) (p:Nat):aR (dP bs d n p).1 ≤ 1 + n.toNat * 13:=by
 have h7 : cH (st 2 1 0 (bJ bs p 10)) = 1 := by simp [st,cH,aR]
 have := zY (Pg bs h) (st 2 1 0 (bJ bs p 10)) (p + 1) n.toNat
 rw [h7] at this
 exact this
theorem Ds (bs:List UInt8){d:Int}(h:0 < d) (p:Nat):eR bs d p = 
  let c := bJ bs (p + 1 + 1) 11
  if c = 9 then
   let r := dP bs (d - 1) (bJ bs (p + 1 + 1 + 1) 3) (p + 1 + 1 + 1 + 1)
   let e := eR bs 0 r.2
   (.mk 9 0 0 0 r.1 [e.1],e.2)
  else if c = 10 then
   let a := eR bs 0 (p + 1 + 1 + 1)
   let b := eR bs 0 a.2
   (.mk 10 0 0 0 [a.1,b.1] [],b.2)
  else kN bs p := by
 have : d.toNat = (d - 1).toNat + 1 := by omega
 simp only [eR,this,w7,dP]
 rfl
theorem QZ (s:AL.Stmt):flat aN [s] = [iv s.op,iv s.x,iv s.y,iv s.n,sl aN s.th,sl aN s.el] := by simp [flat,c9]
theorem Q4 (s t:AL.Stmt):flat aN [s,t] = [iv s.op,iv s.x,iv s.y,iv s.n,sl aN s.th,sl aN s.el,iv t.op,iv t.x,iv t.y,iv t.n,sl aN t.th,sl aN t.el] := by simp [flat,c9]
theorem PU (bs:List UInt8){d:Int}(h0:0 ≤ d) (p:Nat) (h:¬ 0 < d ∨ (bJ bs (p + 1 + 1) 11 ≠ 9 ∧ bJ bs (p + 1 + 1) 11 ≠ 10)):eR bs d p = kN bs p:=by
 by_cases hd : 0 < d
 ·rw [Ds bs hd p]
  dsimp only
  rw [if_neg (by omega),if_neg (by omega)]
 ·have : d = 0 := by omega
  subst this;rfl
theorem OV (bs:List UInt8){d:Int}(hd:0 < d) (p:Nat) (h:bJ bs (p + 1 + 1) 11 = 9):eR bs d p = (.mk 9 0 0 0 (dP bs (d - 1) (bJ bs (p + 1 + 1 + 1) 3) (p + 1 + 1 + 1 + 1)).1 [(eR bs 0 (dP bs (d - 1) (bJ bs (p + 1 + 1 + 1) 3) (p + 1 + 1 + 1 + 1)).2).1],(eR bs 0 (dP bs (d - 1) (bJ bs (p + 1 + 1 + 1) 3) (p + 1 + 1 + 1 + 1)).2).2):=by
 rw [Ds bs hd p]
 dsimp only
 rw [if_pos h]
theorem MA (bs:List UInt8){d:Int}(hd:0 < d) (p:Nat) (h:bJ bs (p + 1 + 1) 11 = 10):eR bs d p = (.mk 10 0 0 0 [(eR bs 0 (p + 1 + 1 + 1)).1,(eR bs 0 (eR bs 0 (p + 1 + 1 + 1)).2).1] [],(eR bs 0 (eR bs 0 (p + 1 + 1 + 1)).2).2):=by
 rw [Ds bs hd p]
 dsimp only
 rw [if_neg (by omega),if_pos h]
theorem CN {bs:List UInt8}{p:Nat}{ts:List Int}{dp:Int}{x0 x1 x2:Operand}{i0:Nat}(ha0:ev (lk tsl) x0 = some (.optr i0 0)) (ha1:ev (lk tsl) x1 = some (sl cI ts)) (ha2:ev (lk tsl) x2 = some (iv dp)) (hH0:aT hsl i0 = some (eT bs p)) (hmc:MC Tryz.prog 102 [.optr 0 0,sl cI ts,iv dp] [(0,some (eT bs p))] 1 (fun _:Unit => True) (fun _ => eQ (eR bs dp p).1) (fun _ => [(0,some (eT bs (eR bs dp p).2))])) (hM:Nat.ble (nidl + 0) a6 = true) (hN:Nat.blt d N = true){md':Md}[hmd:MdA md (fF [x0,x1,x2] ++ [.inr i0]) (List.map Sum.inr (List.map Prod.fst ([(i0,some (eT bs (eR bs dp p).2))]:List (Nat × Option (List AV)))) ++ [.inl d]) md'] (kk:RW Tryz.prog N all Q md' rest ⟨(d,eQ (eR bs dp p).1) :: tsl,gD hsl [(i0,some (eT bs (eR bs dp p).2))],nidl + 0,z0⟩):RW Tryz.prog N all Q md (⟨some d,.call ⟨.value (.func 102),#[x0,x1,x2],tys⟩,ty,pos,af,none⟩ :: rest) ⟨tsl,hsl,nidl,z0⟩:=by
 exact aX (l := [x0,x1,x2]) [i0] 1 [(i0,some (eT bs (eR bs dp p).2))] hmc (avs := [.optr i0 0,sl cI ts,iv dp]) (by simp only [evL,ha0,ha1,ha2]) rfl hM hN (md' := md') (hmd := hmd) kk
theorem yZ {bs:List UInt8}{p:Nat}{ts:List Int}{dp cn:Int}{x0 x1 x2 x3:Operand}{i0:Nat}(ha0:ev (lk tsl) x0 = some (.optr i0 0)) (ha1:ev (lk tsl) x1 = some (sl cI ts)) (ha2:ev (lk tsl) x2 = some (iv dp)) (ha3:ev (lk tsl) x3 = some (iv cn)) (hH0:aT hsl i0 = some (eT bs p)) (hmc:MC Tryz.prog 62 [.optr 0 0,sl cI ts,iv dp,iv cn] [(0,some (eT bs p))] 1 (fun _:Unit => True) (fun _ => sl aN (dP bs dp cn p).1) (fun _ => [(0,some (eT bs (dP bs dp cn p).2))])) (hM:Nat.ble (nidl + 0) a6 = true) (hN:Nat.blt d N = true){md':Md}[hmd:MdA md (fF [x0,x1,x2,x3] ++ [.inr i0]) (List.map Sum.inr (List.map Prod.fst ([(i0,some (eT bs (dP bs dp cn p).2))]:List (Nat × Option (List AV)))) ++ [.inl d]) md'] (kk:RW Tryz.prog N all Q md' rest ⟨(d,sl aN (dP bs dp cn p).1) :: tsl,gD hsl [(i0,some (eT bs (dP bs dp cn p).2))],nidl + 0,z0⟩):RW Tryz.prog N all Q md (⟨some d,.call ⟨.value (.func 62),#[x0,x1,x2,x3],tys⟩,ty,pos,af,none⟩ :: rest) ⟨tsl,hsl,nidl,z0⟩:=by
 exact aX (l := [x0,x1,x2,x3]) [i0] 1 [(i0,some (eT bs (dP bs dp cn p).2))] hmc (avs := [.optr i0 0,sl cI ts,iv dp,iv cn]) (by simp only [evL,ha0,ha1,ha2,ha3]) rfl hM hN (md' := md') (hmd := hmd) kk
attribute [local irreducible] bJ
theorem Cy (D:Int) (hD0:0 ≤ D) (hD:D ≤ 2) (l1One_ih:∀ bs p ts,0 < D → bs.length ≤ 2000 → p ≤ 900000 → ∀ dp:Int,dp = 0 → MC Tryz.prog 102 [.optr 0 0,sl cI ts,iv dp] [(0,some (eT bs p))] 1 (fun _:Unit => True) (fun _ => eQ (eR bs dp p).1) (fun _ => [(0,some (eT bs (eR bs dp p).2))])) (l1Some_ih:∀ bs (p:Nat) ts cn,0 < D → bs.length ≤ 2000 → (p:Int) ≤ 850000 - 100000 * (D - 1) → 0 ≤ cn → cn ≤ 2 → ∀ dp:Int,dp = D - 1 → MC Tryz.prog 62 [.optr 0 0,sl cI ts,iv dp,iv cn] [(0,some (eT bs p))] 1 (fun _:Unit => True) (fun _ => sl aN (dP bs dp cn p).1) (fun _ => [(0,some (eT bs (dP bs dp cn p).2))])) (bs:List UInt8) (p:Nat) (ts:List Int) (dp:Int) (hd:dp = D) (hb:bs.length ≤ 2000) (hp:(p:Int) ≤ 900000 - 100000 * D):MC Tryz.prog 102 [.optr 0 0,sl cI ts,iv dp] [(0,some (eT bs p))] 1 (fun _:Unit => True) (fun _ => eQ (eR bs dp p).1) (fun _ => [(0,some (eT bs (eR bs dp p).2))]):=by
 subst hd
 have h0 := dO bs p 2
 have h2 := dO bs (p + 1 + 1) 11
 have h3 := dO bs (p + 1 + 1 + 1) 3
 have h3' := k3 bs (p + 1 + 1 + 1)
 have h4 := JK bs (d := 0) (by omega) (p + 1 + 1 + 1)
 have h5 := Ar bs (d := dp - 1) (by omega) (bJ bs (p + 1 + 1 + 1) 3) (p + 1 + 1 + 1 + 1)
 have h6 : (bJ bs (p + 1 + 1 + 1) 3).toNat * 43 ≤ 2 * 43 := Nat.mul_le_mul_right _ h3'
 refine aU Tryz.func102 Tryz.ntmps102 ?_
 repeat' (first|(apply aF;first|(apply aJ (t := _);rfl;rfl;rfl;(first|exact (rfl:_=some [_,_,_])|exact (rfl:_=some [_,_,_,_])|exact (rfl:_=some [_,_,_,_,_])|exact (rfl:_=some [_,_,_,_,_,_])|rfl);rfl;rfl)|(first|(apply lQ;rfl;rfl;(rfl);(apply o6 <;> (first|assumption|omega));rfl;rfl)|(apply Pj;rfl;rfl;infer_instance;rfl;(rfl);assumption;omega;(decide);(decide);rfl;rfl)|(apply yZ;rfl;rfl;rfl;rfl;(rfl);(apply l1Some_ih <;> (first|assumption|omega));rfl;rfl)|(apply CN;rfl;rfl;rfl;(rfl);(apply l1One_ih <;> (first|assumption|omega));rfl;rfl)))|refine aE ?_|(refine aK ?_ ?_ <;> intro hc hq <;> try (exfalso;omega))|fail)
 all_goals try (refine aC rfl ?_; refine aP () trivial ?_ ⟨sE ?_,trivial⟩)
 all_goals try (rw [PU bs hD0 p (by omega)]; unfold kN; dsimp only; repeat' split
                all_goals (first|rfl|(exfalso;omega));done)
 iterate 2
  rewrite [OV bs (d := dp) (by assumption) p (by assumption)]
  first|rfl|(refine Eq.trans (b := AV.agg [_,_,_,_,_,AV.imm 1 (flat aN [_])]) ?_ rfl;rw [QZ]; rfl)
 iterate 2
  rewrite [MA bs (d := dp) (by omega) p (by omega)]
  first|rfl|(refine Eq.trans (b := AV.agg [_,_,_,_,AV.imm 2 (flat aN [_,_]),_]) ?_ rfl;rw [Q4]; rfl)
theorem xP (D:Int) (hD0:0 ≤ D) (hD:D ≤ 2) (l1One_ih:∀ bs (p:Nat) ts,bs.length ≤ 2000 → (p:Int) ≤ 900000 - 100000 * D → ∀ dp:Int,dp = D → MC Tryz.prog 102 [.optr 0 0,sl cI ts,iv dp] [(0,some (eT bs p))] 1 (fun _:Unit => True) (fun _ => eQ (eR bs dp p).1) (fun _ => [(0,some (eT bs (eR bs dp p).2))])) (bs:List UInt8) (p:Nat) (ts:List Int) (dp:Int) (hd:dp = D) (cn:Int) (hb:bs.length ≤ 2000) (hp:(p:Int) ≤ 850000 - 100000 * D) (hc0:0 ≤ cn) (hc:cn ≤ 8):MC Tryz.prog 62 [.optr 0 0,sl cI ts,iv dp,iv cn] [(0,some (eT bs p))] 1 (fun _:Unit => True) (fun _ => sl aN (dP bs dp cn p).1) (fun _ => [(0,some (eT bs (dP bs dp cn p).2))]):=by
 subst hd
 refine aU Tryz.func62 Tryz.ntmps62 ?_
 repeat' (first|(apply aF;(apply lQ;rfl;rfl;(rfl);(apply o6 <;> (first|assumption|omega));rfl;rfl))|refine aE ?_|fail)
 refine aH (σ := Nat × List AL.Stmt × Nat) [0,1,2,3] [] (fun k => [(10,iv (k.1 : Int)),(9,.own 1 0 (k.1 + 1) 6)]) (fun k => [(0,some (eT bs k.2.2)),(1,some (flat aN k.2.1))]) (fun k => (k.1 : Int) ≤ cn ∧ k.2 = dP bs dp (k.1 : Int) p) (fun k => cn.toNat - k.1) (0,[st 2 1 0 (bJ bs p 10)],p + 1) ⟨by omega,rfl⟩ ?_
 rintro ⟨k,xs,q⟩ ⟨hk,hse⟩
 dsimp only at hk hse ⊢
 have hp2 := Ar bs (d := dp) (by omega) (k : Int) p
 have hkk : (k : Int).toNat * 43 ≤ 8 * 43 := Nat.mul_le_mul_right _ (by omega)
 have hln := Hq bs dp k p
 rw [← hse] at hp2 hln
 dsimp only at hp2 hln
 repeat' (first|(apply aF;first|(apply aJ (t := _);rfl;rfl;rfl;(exact (rfl:_=some [_,_,_,_,_,_]));rfl;rfl)|(apply CN;rfl;rfl;rfl;(rfl);(apply l1One_ih <;> (first|assumption|omega));rfl;rfl))|refine aE ?_|(refine aK ?_ ?_ <;> intro hc hq <;> try (exfalso;omega))|fail)
 ·(refine bB (k + 1, _, _) (Le.renA [(1, 3)]) ?_ ?_)
  ·dsimp only
   refine ⟨by omega,?_⟩
   rw [Mr,← hse]
  ·dsimp only;omega
 ·have hke : (k : Int) = cn := by omega
  rw [hke] at hse
  (refine aO (Le.frzD (d := 8) (i := 1) rfl rfl) ?_; refine aC rfl ?_)
  refine aP () trivial ?_ ⟨sE ?_,trivial⟩
  ·rw [← hse]; show AV.imm (k + 1) (flat aN xs) = AV.imm xs.length (flat aN xs)
   rw [hln]
  ·rw [← hse]
theorem o8:∀ D:Nat,D ≤ 2 → (∀ bs (p:Nat) ts,bs.length ≤ 2000 → (p:Int) ≤ 900000 - 100000 * (D:Int) → ∀ dp:Int,dp = (D:Int) → MC Tryz.prog 102 [.optr 0 0,sl cI ts,iv dp] [(0,some (eT bs p))] 1 (fun _:Unit => True) (fun _ => eQ (eR bs dp p).1) (fun _ => [(0,some (eT bs (eR bs dp p).2))])) ∧ (∀ bs (p:Nat) ts (cn:Int),bs.length ≤ 2000 → (p:Int) ≤ 850000 - 100000 * (D:Int) → 0 ≤ cn → cn ≤ 8 → ∀ dp:Int,dp = (D:Int) → MC Tryz.prog 62 [.optr 0 0,sl cI ts,iv dp,iv cn] [(0,some (eT bs p))] 1 (fun _:Unit => True) (fun _ => sl aN (dP bs dp cn p).1) (fun _ => [(0,some (eT bs (dP bs dp cn p).2))]))
 | 0, _ => by
  have h1 : ∀ bs (p : Nat) ts, bs.length ≤ 2000 → (p : Int) ≤ 900000 - 100000 * ((0 : Nat) : Int) → ∀ dp : Int, dp = ((0 : Nat) : Int) → MC Tryz.prog 102 [.optr 0 0, sl cI ts, iv dp] [(0, some (eT bs p))] 1 (fun _ : Unit => True) (fun _ => eQ (eR bs dp p).1) (fun _ => [(0, some (eT bs (eR bs dp p).2))]) :=
   fun bs p ts hb hp dp hd => Cy ((0 : Nat) : Int) (by omega) (by omega) (fun _ _ _ h => by omega) (fun _ _ _ _ h => by omega) bs p ts dp hd hb hp
  exact ⟨h1,fun bs p ts cn hb hp h0 h8 dp hd => xP ((0 : Nat) : Int) (by omega) (by omega) h1 bs p ts dp hd cn hb hp h0 h8⟩
 | D + 1, hD => by
  have ih := o8 D (by omega)
  have i0 := o8 0 (by omega)
  have h1 : ∀ bs (p : Nat) ts, bs.length ≤ 2000 → (p : Int) ≤ 900000 - 100000 * ((D + 1 : Nat) : Int) → ∀ dp : Int, dp = ((D + 1 : Nat) : Int) → MC Tryz.prog 102 [.optr 0 0, sl cI ts, iv dp] [(0, some (eT bs p))] 1 (fun _ : Unit => True) (fun _ => eQ (eR bs dp p).1) (fun _ => [(0, some (eT bs (eR bs dp p).2))]) :=
   fun bs p ts hb hp dp hd => Cy ((D + 1 : Nat) : Int) (by omega) (by omega) (fun bs p ts _ hb hp dp hd => i0.1 bs p ts hb (by omega) dp (by omega)) (fun bs p ts cn _ hb hp h0 h2 dp hd => ih.2 bs p ts cn hb (by omega) h0 (by omega) dp (by omega)) bs p ts dp hd hb hp
  exact ⟨h1,fun bs p ts cn hb hp h0 h8 dp hd => xP ((D + 1 : Nat) : Int) (by omega) (by omega) h1 bs p ts dp hd cn hb hp h0 h8⟩
theorem Kn (bs:List UInt8) (p:Nat) (ts:List Int) (dp cn:Int) (hb:bs.length ≤ 2000) (hp:p ≤ 600000) (h0:0 ≤ cn) (h8:cn ≤ 8) (hd0:0 ≤ dp) (hd:dp ≤ 2):MC Tryz.prog 62 [.optr 0 0,sl cI ts,iv dp,iv cn] [(0,some (eT bs p))] 1 (fun _:Unit => True) (fun _ => sl aN (dP bs dp cn p).1) (fun _ => [(0,some (eT bs (dP bs dp cn p).2))]) :=
 (o8 dp.toNat (by omega)).2 bs p ts cn hb (by omega) h0 h8 dp (by omega)
end Go.Proofs.YteidfaaldcedpaaGreatDoor
namespace Go.Proofs.YteidfaaldcedpaaGreatDoor
open Go.AL Go.RowKit
variable {N : Nat} {Q : Exit → AS → Prop} {all : Array Oper} {rest : List Oper} {tsl : List (Nat × AV)} {hsl : List (Nat × Option (List AV))} {nidl : Nat} {z0 : Lo} {md : Md} {d : Nat} {ty : TypeId} {pos : String} {af : Array Edge} {tys : Array TypeId}
theorem FJ {w:World}{bad:Nat → Prop}{ι:Pl}:∀ {cs cs':List AV},All2 (fun c c' => c' = c ∨ c' = qR c) cs cs' → ∀ {b β:Nat},RdC w bad ι cs b β → RdC w bad ι cs' b β
 | _,_,.nil,_,_,h => h
 | _, _, .cons h1 h2, b, β, h => by
  simp only [RdC] at h ⊢
  obtain ⟨⟨x,q1,q2,q3⟩,q4⟩ := h
  refine ⟨⟨x,q1,q2,?_⟩,FJ h2 q4⟩
  rcases h1 with rfl|rfl
  ·exact q3
  ·exact nK q3
theorem FM:∀ (l:List AV){a b:List AV},All2 (fun c c' => c' = c ∨ c' = qR c) a b → All2 (fun c c' => c' = c ∨ c' = qR c) (l ++ a) (l ++ b)
 | [],_,_,h => h
 | _ :: l,_,_,h => .cons (.inl rfl) (FM l h)
theorem rE {α:Type}{p q:α → Prop}{F:α → AS}{s s':AS}(L:Le s s') (h:∃ j,p j ∧ q j ∧ Le s' (F j)):∃ j,p j ∧ q j ∧ Le s (F j):=by
 obtain ⟨j,h1,h2,h3⟩ := h
 exact ⟨j,h1,h2,L.trans h3⟩
theorem Le.stmtN {ts:List (Nat × AV)}{hs:List (Nat × Option (List AV))}{n i:Nat}{z0:Lo}{xs:List AL.Stmt}(s:AL.Stmt){m:Nat}{a b:AV}(hm:m = xs.length)
  (ha : a = sl aN s.th ∨ (a = .v (.slice none 0 0) ∧ s.th = [])) (hb : b = sl aN s.el ∨ (b = .v (.slice none 0 0) ∧ s.el = []))
  (hi : aT hs i = some (((flat aN xs).drop 0).take (m * 6) ++ List.take (1 * 6) [iv s.op,iv s.x,iv s.y,iv s.n,a,b])) : Le ⟨ts,hs,n,z0⟩ ⟨ts,(i,some (flat aN (xs ++ [s]))) :: hs,n,z0⟩ := by
 have e : flat aN (xs ++ [s]) = ((flat aN xs).drop 0).take (m * 6) ++ [iv s.op,iv s.x,iv s.y,iv s.n,sl aN s.th,sl aN s.el] := (BD hm).symm
 have k : All2 (fun c c' => c' = c ∨ c' = qR c) (((flat aN xs).drop 0).take (m * 6) ++ List.take (1 * 6) [iv s.op, iv s.x, iv s.y, iv s.n, a, b]) (flat aN (xs ++ [s])) := by
  rw [e]
  refine FM _ (.cons (.inl rfl) (.cons (.inl rfl) (.cons (.inl rfl) (.cons (.inl rfl) (.cons ?_ (.cons ?_ .nil))))))
  ·rcases ha with h | ⟨h, h2⟩
   ·exact .inl h.symm
   ·refine .inr ?_; rw [h2,h]; rfl
  ·rcases hb with h | ⟨h, h2⟩
   ·exact .inl h.symm
   ·refine .inr ?_; rw [h2,h]; rfl
 refine Le.cells hi ?_ fun w bad ι b β h => FJ k h
 rw [e]; simp
theorem FW (mm:Nat) (hmm:mm ≤ 1048576) (copy_ih:∀ l,aR l < mm → PC Tryz.prog 99 [sl aN l] (fun r => r = sl aN l)) (l:List AL.Stmt) (hs:aR l ≤ mm):PC Tryz.prog 99 [sl aN l] (fun r => r = sl aN l):=by
 have hlen := dX l
 refine aB Tryz.func99 Tryz.ntmps99 ?_
 repeat' (first|refine aE ?_|fail)
 refine aH (σ := Nat × List AL.Stmt) [0] [] (fun k => [(4,iv (k.1 : Int)),(3,.own 0 0 k.1 6)]) (fun k => [(0,some (flat aN k.2))]) (fun k => k.1 ≤ l.length ∧ k.2 = l.take k.1) (fun k => l.length - k.1) (0,[]) ⟨by omega,rfl⟩ ?_
 rintro ⟨k,xs⟩ ⟨hk,hxs⟩
 dsimp only at hk hxs ⊢
 have hck := gP l k
 have hct := l9 l[k]!
 have hln : xs.length = k := by rw [hxs,List.length_take]; omega
 repeat' (first|(apply aF;first|(apply aJ (t := _);rfl;rfl;rfl;(exact (rfl:_=some [_,_,_,_,_,_]));rfl;rfl)|(apply aA (k := 99);rfl;(apply copy_ih <;> (omega));exact Pur.pf;rfl))|refine aE ?_|(refine aK ?_ ?_ <;> intro hc hq <;> try (exfalso;omega))|fail)
 ·(refine bB (k + 1, _) (Le.renA [(0, 3)]) ?_ ?_)
  ·exact ⟨by dsimp only;omega,by dsimp only;rw [hxs,bG l k (by omega)]⟩
  ·dsimp only;omega
 ·have hel : l[k]!.el = [] := List.eq_nil_of_length_eq_zero (by omega)
  refine rE (Le.stmtN (i := 3) l[k]! hln.symm (.inl rfl) (.inr ⟨rfl,hel⟩) rfl) ?_
  (refine bB (k + 1,_) (Le.renA [(0,3)]) ?_ ?_)
  ·exact ⟨by dsimp only;omega,by dsimp only;rw [hxs,bG l k (by omega)]⟩
  ·dsimp only;omega
 ·have hth : l[k]!.th = [] := List.eq_nil_of_length_eq_zero (by omega)
  refine rE (Le.stmtN (i := 3) l[k]! hln.symm (.inr ⟨rfl,hth⟩) (.inl rfl) rfl) ?_
  (refine bB (k + 1,_) (Le.renA [(0,3)]) ?_ ?_)
  ·exact ⟨by dsimp only;omega,by dsimp only;rw [hxs,bG l k (by omega)]⟩
  ·dsimp only;omega
 ·have hth : l[k]!.th = [] := List.eq_nil_of_length_eq_zero (by omega)
  have hel : l[k]!.el = [] := List.eq_nil_of_length_eq_zero (by omega)
  refine rE (Le.stmtN (i := 3) l[k]! hln.symm (.inr ⟨rfl,hth⟩) (.inr ⟨rfl,hel⟩) rfl) ?_
  (refine bB (k + 1,_) (Le.renA [(0,3)]) ?_ ?_)
  ·exact ⟨by dsimp only;omega,by dsimp only;rw [hxs,bG l k (by omega)]⟩
  ·dsimp only;omega
 ·have hke : k = l.length := by omega
  (refine aO (Le.frzD (d := 2) (i := 0) rfl rfl) ?_; refine aC rfl ?_)
  refine ⟨?_,Pur.pf⟩
  rw [hxs,hke,List.take_length]; rfl
theorem Pa (l:List AL.Stmt) (hb:aR l ≤ 1048576):PC Tryz.prog 99 [sl aN l] (fun r => r = sl aN l):=by
 have key : ∀ m, m ≤ 1048576 → ∀ l, aR l ≤ m → PC Tryz.prog 99 [sl aN l] (fun r => r = sl aN l) := by
  intro m
  induction m with
  | zero => intro hm l hl;exact FW 0 hm (fun l h => by omega) l hl
  | succ m ih => intro hm l hl;exact FW (m + 1) hm (fun l h => ih (by omega) l (by omega)) l hl
 exact key (aR l) hb l (Nat.le_refl _)
theorem MK (l:List AL.Stmt) (hs:aR l ≤ 1048576):MC Tryz.prog 99 [sl aN l] [] 0 (fun _:Unit => True) (fun _ => .own 0 0 l.length 6) (fun _ => [(0,some (flat aN l))]):=by
 have hlen := dX l
 refine aU Tryz.func99 Tryz.ntmps99 ?_
 repeat' (first|refine aE ?_|fail)
 refine aH (σ := Nat × List AL.Stmt) [0] [] (fun k => [(4,iv (k.1 : Int)),(3,.own 0 0 k.1 6)]) (fun k => [(0,some (flat aN k.2))]) (fun k => k.1 ≤ l.length ∧ k.2 = l.take k.1) (fun k => l.length - k.1) (0,[]) ⟨by omega,rfl⟩ ?_
 rintro ⟨k,xs⟩ ⟨hk,hxs⟩
 dsimp only at hk hxs ⊢
 have hck := gP l k
 have hct := l9 l[k]!
 have hln : xs.length = k := by rw [hxs,List.length_take]; omega
 repeat' (first|(apply aF;first|(apply aJ (t := _);rfl;rfl;rfl;(exact (rfl:_=some [_,_,_,_,_,_]));rfl;rfl)|(apply aA (k := 99);rfl;(apply Pa <;> (omega));exact Pur.pf;rfl))|refine aE ?_|(refine aK ?_ ?_ <;> intro hc hq <;> try (exfalso;omega))|fail)
 ·(refine bB (k + 1, _) (Le.renA [(0, 3)]) ?_ ?_)
  ·exact ⟨by dsimp only;omega,by dsimp only;rw [hxs,bG l k (by omega)]⟩
  ·dsimp only;omega
 ·have hel : l[k]!.el = [] := List.eq_nil_of_length_eq_zero (by omega)
  refine rE (Le.stmtN (i := 3) l[k]! hln.symm (.inl rfl) (.inr ⟨rfl,hel⟩) rfl) ?_
  (refine bB (k + 1,_) (Le.renA [(0,3)]) ?_ ?_)
  ·exact ⟨by dsimp only;omega,by dsimp only;rw [hxs,bG l k (by omega)]⟩
  ·dsimp only;omega
 ·have hth : l[k]!.th = [] := List.eq_nil_of_length_eq_zero (by omega)
  refine rE (Le.stmtN (i := 3) l[k]! hln.symm (.inr ⟨rfl,hth⟩) (.inl rfl) rfl) ?_
  (refine bB (k + 1,_) (Le.renA [(0,3)]) ?_ ?_)
  ·exact ⟨by dsimp only;omega,by dsimp only;rw [hxs,bG l k (by omega)]⟩
  ·dsimp only;omega
 ·have hth : l[k]!.th = [] := List.eq_nil_of_length_eq_zero (by omega)
  have hel : l[k]!.el = [] := List.eq_nil_of_length_eq_zero (by omega)
  refine rE (Le.stmtN (i := 3) l[k]! hln.symm (.inr ⟨rfl,hth⟩) (.inr ⟨rfl,hel⟩) rfl) ?_
  (refine bB (k + 1,_) (Le.renA [(0,3)]) ?_ ?_)
  ·exact ⟨by dsimp only;omega,by dsimp only;rw [hxs,bG l k (by omega)]⟩
  ·dsimp only;omega
 ·have hke : k = l.length := by omega
  have hxl : xs = l := by rw [hxs,hke,List.take_length]
  subst hke
  refine aC rfl ?_
  refine aP () trivial ?_ ⟨sE ?_,trivial⟩
  ·rfl
  ·rw [hxl]
theorem IF {l:List AL.Stmt}{x0:Operand}(ha0:ev (lk tsl) x0 = some (sl aN l)) (hmc:MC Tryz.prog 99 [sl aN l] [] 0 (fun _:Unit => True) (fun _ => .own 0 0 l.length 6) (fun _ => [(0,some (flat aN l))])) (hM:Nat.ble (nidl + 1) a6 = true) (hN:Nat.blt d N = true){md':Md}[hmd:MdA md (fF [x0] ++ []) (List.map Sum.inr (List.map Prod.fst ([(nidl,some (flat aN l))]:List (Nat × Option (List AV)))) ++ [.inl d]) md'] (kk:RW Tryz.prog N all Q md' rest ⟨(d,.own nidl 0 l.length 6) :: tsl,gD hsl [(nidl,some (flat aN l))],nidl + 1,z0⟩):RW Tryz.prog N all Q md (⟨some d,.call ⟨.value (.func 99),#[x0],tys⟩,ty,pos,af,none⟩ :: rest) ⟨tsl,hsl,nidl,z0⟩:=by
 exact aX (l := [x0]) [] 1 [(nidl,some (flat aN l))] hmc (avs := [sl aN l]) (by simp only [evL,ha0]) rfl hM hN (md' := md') (hmd := hmd) kk
theorem GK {q:Prg}{x0:Operand}(ha0:ev (lk tsl) x0 = some (bI q)) (hmc:MC Tryz.prog 58 [bI q] [] 0 (fun _:Unit => True) (fun _ => .agg [.own 3 0 q.types.length 1,.own 4 0 q.body.length 6]) (fun _ => [(3,some (flat cI q.types)),(4,some (flat aN q.body))])) (hM:Nat.ble (nidl + 5) a6 = true) (hN:Nat.blt d N = true){md':Md}[hmd:MdA md (fF [x0] ++ []) (List.map Sum.inr (List.map Prod.fst ([((nidl + 3),some (flat cI q.types)),((nidl + 4),some (flat aN q.body))]:List (Nat × Option (List AV)))) ++ [.inl d]) md'] (kk:RW Tryz.prog N all Q md' rest ⟨(d,.agg [.own (nidl + 3) 0 q.types.length 1,.own (nidl + 4) 0 q.body.length 6]) :: tsl,gD hsl [((nidl + 3),some (flat cI q.types)),((nidl + 4),some (flat aN q.body))],nidl + 5,z0⟩):RW Tryz.prog N all Q md (⟨some d,.call ⟨.value (.func 58),#[x0],tys⟩,ty,pos,af,none⟩ :: rest) ⟨tsl,hsl,nidl,z0⟩:=by
 exact aX (l := [x0]) [] 5 [((nidl + 3),some (flat cI q.types)),((nidl + 4),some (flat aN q.body))] hmc (avs := [bI q]) (by simp only [evL,ha0]) rfl hM hN (md' := md') (hmd := hmd) kk
theorem Iu (q:Prg) (hs:aR q.body ≤ 1048576) (ht:q.types.length ≤ 1048576):MC Tryz.prog 58 [bI q] [] 0 (fun _:Unit => True) (fun _ => .agg [.own 3 0 q.types.length 1,.own 4 0 q.body.length 6]) (fun _ => [(3,some (flat cI q.types)),(4,some (flat aN q.body))]):=by
 refine aU Tryz.func58 Tryz.ntmps58 ?_
 repeat' (first|(apply aF;(apply IF;rfl;(apply MK;assumption);rfl;rfl))|refine aE ?_|refine bH ?_|fail)
 refine aC rfl ?_
 refine aP () trivial ?_ ⟨sE ?_,sE ?_,trivial⟩
 ·show AV.agg [AV.own 3 0 (0 + q.types.length) 1, AV.own 4 0 q.body.length 6] = _
  rw [Nat.zero_add]
 ·rfl
 ·rfl
theorem Jl (s:AL.Stmt) (a:Int):cH (RE s a) = cH s := by simp [gM,RE,AL.Stmt.th,AL.Stmt.el]
theorem Lu (s:AL.Stmt) (a:Int):cH (uX s a) = cH s := by simp [gM,uX,AL.Stmt.th,AL.Stmt.el]
theorem MI (s:AL.Stmt) (a:Int):cH (uY s a) = cH s := by simp [gM,uY,AL.Stmt.th,AL.Stmt.el]
theorem LG (s:AL.Stmt) (a:Int):cH (uN s a) = cH s := by simp [gM,uN,AL.Stmt.th,AL.Stmt.el]
theorem m8:∀ (xs:List AL.Stmt) (k:Nat) (y:AL.Stmt),k < xs.length → cH y = cH xs[k]! → aR (xs.set k y) = aR xs
 | [],k,y,h,_ => by simp at h
 | x :: xs,0,y,_,h => by simp only [List.set_cons_zero,aR]; simp only [List.getElem!_cons_zero] at h;omega
 | x :: xs, k + 1, y, h, h2 => by
  simp only [List.set_cons_succ,aR]
  rw [m8 xs k y (by simpa using h) (by rw [h2]; simp only [List.getElem!_cons_succ])]
theorem Bk (s:AL.Stmt):∀ k,aR (List.replicate k s) = k * cH s
 | 0 => by simp [aR]
 | k + 1 => by simp only [List.replicate_succ,aR,Bk s k,Nat.succ_mul]; omega
theorem BC:∀ (xs:List AL.Stmt) (k:Nat),aR (xs.take k ++ xs.drop (k + 1)) ≤ aR xs
 | [],k => by simp [aR]
 | x :: xs,0 => by simp [aR]
 | x :: xs,k + 1 => by have := BC xs k;simp only [List.take_succ_cons,List.drop_succ_cons,List.cons_append,aR]; omega
theorem kE {T:Nat → Option AV}{x:Operand}{dd:Nat}{k:IntKind}{m:Int}(hx:ev T x = some (.v (.int k m))) (h:0 ≤ m):gA T (some x) dd = some m.toNat:=by
 simp only [gA,hx]; rw [if_pos h]
section
variable {P : Program} {N : Nat} {Q : Exit → AS → Prop} {all : Array Oper} {rest : List Oper} {ts : List (Nat × AV)} {hs : List (Nat × Option (List AV))} {n : Nat} {z0 : Lo} {md : Md}
variable {d : Nat} {ty : TypeId} {pos : String} {af : Array Edge}
theorem D3 {t el:TypeId}{x:Operand}{hi:Option Operand}{i o m e h:Nat}[ht:SlT P t el] [he:SzT P el e] (hx:ev (lk ts) x = some (.own i o m e))
  (hh : gA (lk ts) hi m = some h) (hb : h ≤ m) (hN : Nat.blt d N = true) {md' : Md} [hmd : MdA md (rO x ++ (rB none ++ rB hi)) [.inl d] md'] (kk : RW P N all Q md' rest ⟨(d,.own i o h e) :: ts,hs,n,z0⟩) :
  RW P N all Q md (⟨some d,.slice t x none hi none,ty,pos,af,none⟩ :: rest) ⟨ts,hs,n,z0⟩ :=
 gR (m := m) (l := 0) (h := h) hx rfl rfl hh (by simp [Od,hb]) hN (md' := md') (hmd := hmd) kk
end
theorem M4 {hs:List (Nat × Option (List AV))}{xs:List AL.Stmt}{i k n:Nat}(hH:aT hs i = some (flat aN xs)) (hn:n = xs.length - k):sCells (aT hs) 6 (qR (.own i (0 + k * 6) n 6)) = some (n,flat aN (xs.drop k)):=by
 show ((aT hs i).bind fun cs => if n * 6 ≤ (cs.drop (0 + k * 6)).length then some (n,(cs.drop (0 + k * 6)).take (n * 6)) else none) = _
 rw [hH,Option.bind_some,Nat.zero_add]
 have h1 : (flat aN xs).length = xs.length * 6 := aI aN xs
 have h3 : (flat aN xs).drop (k * 6) = flat aN (xs.drop k) := by
  have h4 : flat aN xs = flat aN (xs.take k) ++ flat aN (xs.drop k) := by rw [cE,List.take_append_drop]
  have h5 : (flat aN (xs.take k)).length = (xs.take k).length * 6 := aI aN _
  by_cases hk : k ≤ xs.length
  ·rw [h4,← show (flat aN (xs.take k)).length = k * 6 from by rw [h5,List.length_take]; congr 1;omega,List.drop_left]
  ·rw [List.drop_of_length_le (by omega),List.drop_of_length_le (by omega)]; rfl
 rw [h3]
 have h2 : (flat aN (xs.drop k)).length = (xs.length - k) * 6 := by rw [aI aN (e := 6),List.length_drop]
 rw [if_pos (by omega),List.take_of_length_le (by omega)]
theorem LV {xs ys:List AL.Stmt}{k:Nat}(hk:k ≤ xs.length):((flat aN xs).drop 0).take (k * 6) ++ flat aN ys = flat aN (xs.take k ++ ys):=by
 rw [List.drop_zero,dL aN (e := 6),cE]
theorem Iq (bs:List UInt8) (p:Nat) (q:Prg) (hb:bs.length ≤ 2000) (hp:p ≤ 900000) (hs:aR q.body ≤ 10000) (ht:q.types.length ≤ 10000):MC Tryz.prog 24 [.optr 0 0,bI q] [(0,some (eT bs p))] 1 (fun x:Prg × Nat => aR x.1.body ≤ 32 * aR q.body ∧ x.1.types.length ≤ q.types.length + 1 ∧ x.2 ≤ p + 3) (fun x => bI x.1) (fun x => [(0,some (eT bs x.2))]):=by
 have hlen := dX q.body
 have h0 := dO bs p (q.body.length : Int)
 refine aU Tryz.func24 Tryz.ntmps24 ?_
 repeat' (first|(apply aF;(first|(apply lQ;rfl;rfl;(rfl);(apply o6 <;> (first|assumption|omega));rfl;rfl)|(apply Ft;rfl;rfl;rfl;rfl;infer_instance;rfl;(rfl);assumption;omega;(decide);(decide);rfl;rfl)|(apply GK;rfl;(apply Iu <;> (omega));rfl;rfl)))|refine aE ?_|(refine aK ?_ ?_ <;> intro hc hq <;> try (exfalso;omega))|refine bH ?_|fail)
 ·refine aO (Le.frzC (j := 2) (i := 6) [] rfl rfl (by decide)) ?_
  refine aO (Le.frzC (j := 2) (i := 7) [.imm _ _] rfl rfl (by decide)) ?_
  refine aC rfl ?_
  refine aP ((⟨q.types,q.body⟩ : Prg),p) ?_ ?_ ⟨sE ?_,trivial⟩
  ·exact ⟨by dsimp only;omega,by dsimp only;omega,by dsimp only;omega⟩
  ·rfl
  ·rfl
 ·refine aO (Le.frzC (j := 2) (i := 6) [] rfl rfl (by decide)) ?_
  refine aO (Le.frzC (j := 2) (i := 7) [.imm _ _] rfl rfl (by decide)) ?_
  refine aC rfl ?_
  refine aP ((⟨q.types,q.body.set (bJ bs p (q.body.length : Int)).toNat (RE q.body[(bJ bs p (q.body.length : Int)).toNat]! (jC bs (p + 1 + 1) [0,11,1,3,8]))⟩ : Prg),p + 1 + 1 + 1) ?_ ?_ ⟨sE ?_,trivial⟩
  ·refine ⟨?_,by dsimp only;omega,by dsimp only;omega⟩; dsimp only;rw [m8 q.body (bJ bs p (q.body.length : Int)).toNat _ (by omega) (by rw [Jl])]; omega
  ·show _ = AV.agg [_,AV.imm (List.length (q.body.set _ _)) _]; rw [List.length_set]; rfl
  ·rfl
 ·refine aO (Le.frzC (j := 2) (i := 6) [] rfl rfl (by decide)) ?_
  refine aO (Le.frzC (j := 2) (i := 7) [.imm _ _] rfl rfl (by decide)) ?_
  refine aC rfl ?_
  refine aP ((⟨q.types,q.body.set (bJ bs p (q.body.length : Int)).toNat (uX q.body[(bJ bs p (q.body.length : Int)).toNat]! (jC bs (p + 1 + 1) [6,-1,0,1]))⟩ : Prg),p + 1 + 1 + 1) ?_ ?_ ⟨sE ?_,trivial⟩
  ·refine ⟨?_,by dsimp only;omega,by dsimp only;omega⟩; dsimp only;rw [m8 q.body (bJ bs p (q.body.length : Int)).toNat _ (by omega) (by rw [Lu])]; omega
  ·show _ = AV.agg [_,AV.imm (List.length (q.body.set _ _)) _]; rw [List.length_set]; rfl
  ·rfl
 ·refine aO (Le.frzC (j := 2) (i := 6) [] rfl rfl (by decide)) ?_
  refine aO (Le.frzC (j := 2) (i := 7) [.imm _ _] rfl rfl (by decide)) ?_
  refine aC rfl ?_
  refine aP ((⟨q.types,q.body.set (bJ bs p (q.body.length : Int)).toNat (uY q.body[(bJ bs p (q.body.length : Int)).toNat]! (jC bs (p + 1 + 1) [6,-1,0,1]))⟩ : Prg),p + 1 + 1 + 1) ?_ ?_ ⟨sE ?_,trivial⟩
  ·refine ⟨?_,by dsimp only;omega,by dsimp only;omega⟩; dsimp only;rw [m8 q.body (bJ bs p (q.body.length : Int)).toNat _ (by omega) (by rw [MI])]; omega
  ·show _ = AV.agg [_,AV.imm (List.length (q.body.set _ _)) _]; rw [List.length_set]; rfl
  ·rfl
 ·refine aO (Le.frzC (j := 2) (i := 6) [] rfl rfl (by decide)) ?_
  refine aO (Le.frzC (j := 2) (i := 7) [.imm _ _] rfl rfl (by decide)) ?_
  refine aC rfl ?_
  refine aP ((⟨q.types,q.body.set (bJ bs p (q.body.length : Int)).toNat (uN q.body[(bJ bs p (q.body.length : Int)).toNat]! (jC bs (p + 1 + 1) [10,-1,5]))⟩ : Prg),p + 1 + 1 + 1) ?_ ?_ ⟨sE ?_,trivial⟩
  ·refine ⟨?_,by dsimp only;omega,by dsimp only;omega⟩; dsimp only;rw [m8 q.body (bJ bs p (q.body.length : Int)).toNat _ (by omega) (by rw [LG])]; omega
  ·show _ = AV.agg [_,AV.imm (List.length (q.body.set _ _)) _]; rw [List.length_set]; rfl
  ·rfl
 ·refine aO (Le.frzC (j := 2) (i := 11) [] rfl rfl (by decide)) ?_
  refine aO (Le.frzC (j := 2) (i := 7) [.imm _ _] rfl rfl (by decide)) ?_
  refine aC rfl ?_
  refine aP ((⟨q.types ++ [jC bs (p + 1 + 1) [1,5,0,4]],q.body⟩ : Prg),p + 1 + 1 + 1) ?_ ?_ ⟨sE ?_,trivial⟩
  ·exact ⟨by dsimp only;omega,by simp,by dsimp only;omega⟩
  ·show _ = AV.agg [AV.imm (List.length (q.types ++ [_])) _,_]; rw [List.length_append]; rfl
  ·rfl
 ·refine aH (σ := Nat × List AL.Stmt × Nat) [4, 5] [6, 2, 0] (fun k => [(7, iv (k.1 : Int))]) (fun k => [(7, some (flat aN k.2.1)), (8, some [.own 6 0 q.types.length 1, .own 7 0 k.2.2 6])]) (fun k => k.1 ≤ 31 ∧ k.2.1 = q.body ++ List.replicate k.1 q.body[0]! ∧ k.2.2 = k.2.1.length) (fun k => 31 - k.1) (0, q.body, q.body.length) ⟨by omega, by simp, rfl⟩ ?_
  rintro ⟨k,xs,m⟩ ⟨hk,hxs,hm⟩
  dsimp only at hk hxs hm ⊢
  have hln : 0 < xs.length := by rw [hxs,List.length_append]; omega
  have hl2 : xs.length = q.body.length + k := by rw [hxs,List.length_append,List.length_replicate]
  repeat' (first|refine aE ?_|(refine aK ?_ ?_ <;> intro hc hq <;> try (exfalso;omega))|refine bH ?_|fail)
  ·(refine bB (k + 1, _, _) (Le.renA [(7, 10), (8, 8), (6, 6), (2, 2)]) ?_ ?_)
   ·dsimp only
    refine ⟨by omega,?_,by simp [hm]⟩
    have e0 : xs[Int.toNat 0]! = q.body[0]! := by
     show xs[0]! = _
     rw [hxs,getElem!_pos _ _ (by rw [List.length_append]; omega),List.getElem_append_left (by omega),getElem!_pos _ _ (by omega)]
    rw [e0,hxs,List.replicate_succ',List.append_assoc]
   ·dsimp only;omega
  ·have hc0 : cH q.body[0]! ≤ aR q.body := gP q.body 0 (by omega)
   have hc1 : aR xs = aR q.body + k * cH q.body[0]! := by rw [hxs,fZ,Bk]
   have hc2 : k * cH q.body[0]! ≤ 31 * aR q.body := Nat.mul_le_mul hk hc0
   subst hm
   refine aO (Le.frzC (j := 2) (i := 6) [] rfl rfl (by decide)) ?_
   refine aO (Le.frzC (j := 2) (i := 7) [.imm _ _] rfl rfl (by decide)) ?_
   refine aC rfl ?_
   refine aP ((⟨q.types,xs⟩ : Prg),p + 1 + 1) ?_ ?_ ⟨sE ?_,trivial⟩
   ·exact ⟨by dsimp only;omega,by dsimp only;omega,by dsimp only;omega⟩
   ·rfl
   ·rfl
 ·have hK : (bJ bs p (q.body.length : Int) + 1).toNat = (bJ bs p (q.body.length : Int)).toNat + 1 := by omega
  repeat' (first|(apply aF;first|(apply D3;rfl;exact kE rfl (by omega);omega;rfl)|(apply lX;rfl;exact kE rfl (by omega);omega;rfl)|(apply bZ;rfl;rfl;rfl;rfl;rfl;(rw [aI]; omega);exact M4 rfl (by omega);omega;omega;exact LV (by omega);rfl;rfl))|refine aE ?_|fail)
  refine aO (Le.frzC (j := 2) (i := 6) [] rfl rfl (by decide)) ?_
  refine aO (Le.frzC (j := 2) (i := 9) [.imm _ _] rfl rfl (by decide)) ?_
  refine aC rfl ?_
  refine aP ((⟨q.types,q.body.take (bJ bs p (q.body.length : Int)).toNat ++ q.body.drop (bJ bs p (q.body.length : Int) + 1).toNat⟩ : Prg),p + 1 + 1) ?_ ?_ ⟨sE ?_,trivial⟩
  ·refine ⟨?_, by dsimp only; omega, by dsimp only; omega⟩
   dsimp only
   rw [hK]
   have := BC q.body (bJ bs p (q.body.length : Int)).toNat
   omega
  ·show AV.agg [_, AV.imm _ _] = AV.agg [_, AV.imm (List.length (_ ++ _)) _]
   rw [List.length_append,List.length_take,List.length_drop,Nat.min_eq_left (by omega)]
  ·rfl
 ·refine aO (Le.frzC (j := 2) (i := 6) [] rfl rfl (by decide)) ?_
  refine aO (Le.frzC (j := 2) (i := 7) [.imm _ _] rfl rfl (by decide)) ?_
  refine aC rfl ?_
  refine aP (q,p + 1 + 1) ⟨by dsimp only;omega,by dsimp only;omega,by dsimp only;omega⟩ rfl ⟨sE ?_,trivial⟩
  ·rfl
def Fy (s : ByteArray) (i : Int) (w : ByteArray) : Bool := decide (0 ≤ i) && (decide (i + w.size ≤ s.size) && ((s.extract i.toNat (i + w.size).toNat).toList == w.toList))
def N0 (lo hi : Int) (s : ByteArray) (i : Int) : Int := if i < 0 then -1 else if (s.size : Int) ≤ i then -1 else if ((s[i.toNat]!).toNat : Int) < lo then -1 else if hi < ((s[i.toNat]!).toNat : Int) then -1 else ((s[i.toNat]!).toNat : Int) - lo
theorem vG (s:ByteArray) (i:Int) (w:ByteArray) (hs:s.size ≤ 1048576) (hw:w.size ≤ 1048576) (hi:i ≤ 1048576):PC Tryz.prog 144 [sv s,iv i,sv w] (fun r => r = bv (Fy s i w)):=by
 refine aB Tryz.func144 Tryz.ntmps144 ?_
 repeat' (first|(apply aF;first|(apply fO;rfl;rfl;(rfl);rfl)|(apply rS;rfl;exact kE rfl (by omega);exact kE rfl (by omega);omega;rfl))|refine aE ?_|(refine bK ?_ ?_ <;> intro hg hq <;> try (exfalso;omega))|refine cV ?_|fail)
 all_goals (refine ⟨?_,rfl⟩; simp only [aM,AV.v.injEq,Value.bool.injEq,Value.int.injEq,true_and])
 ·unfold Fy
  rw [decide_eq_true (by omega),decide_eq_true (by omega)]; rfl
 ·unfold Fy
  rw [decide_eq_true (p := 0 ≤ i) (by omega),decide_eq_false (by omega)]; rfl
 ·unfold Fy
  rw [decide_eq_false (by omega)]; rfl
theorem LC (s:ByteArray) (i:Int) (hs:s.size ≤ 1048576):PC Tryz.prog 173 [sv s,iv i] (fun r => r = iv (N0 97 122 s i)):=by
 have hb0 : ((s[i.toNat]!).toNat : Int) ≤ 255 := by have := (s[i.toNat]!).toNat_lt;omega
 refine aB Tryz.func173 Tryz.ntmps173 ?_
 repeat' (first|(apply aF;first|(apply qY;rfl;rfl;omega;rfl)|(apply FA;rfl;rfl;omega;rfl))|refine aE ?_|(refine aK ?_ ?_ <;> intro hc hq <;> try (exfalso;omega))|(refine bK ?_ ?_ <;> intro hg hq <;> try (exfalso;omega))|refine cV ?_|fail)
 all_goals (refine ⟨?_,rfl⟩; simp only [aM,AV.v.injEq,Value.bool.injEq,Value.int.injEq,true_and])
 all_goals (unfold N0;repeat' split)
 all_goals (first|rfl|omega)
theorem G3 (s:ByteArray) (i:Int) (hs:s.size ≤ 1048576):PC Tryz.prog 175 [sv s,iv i] (fun r => r = iv (N0 48 57 s i)):=by
 have hb0 : ((s[i.toNat]!).toNat : Int) ≤ 255 := by have := (s[i.toNat]!).toNat_lt;omega
 refine aB Tryz.func175 Tryz.ntmps175 ?_
 repeat' (first|(apply aF;first|(apply qY;rfl;rfl;omega;rfl)|(apply FA;rfl;rfl;omega;rfl))|refine aE ?_|(refine aK ?_ ?_ <;> intro hc hq <;> try (exfalso;omega))|(refine bK ?_ ?_ <;> intro hg hq <;> try (exfalso;omega))|refine cV ?_|fail)
 all_goals (refine ⟨?_,rfl⟩; simp only [aM,AV.v.injEq,Value.bool.injEq,Value.int.injEq,true_and])
 all_goals (unfold N0;repeat' split)
 all_goals (first|rfl|omega)
def QP (s : ByteArray) (i : Int) (r : AV) : Prop := ∃ (x : AL.Stmt) (nx : Int),r = .tup [eQ x,iv nx] ∧ ((nx = -1 ∧ (cH x : Int) ≤ s.size + 1) ∨ (i < nx ∧ nx ≤ s.size + 3 ∧ (cH x : Int) ≤ nx - i))
def QB (s : ByteArray) (i : Int) (r : AV) : Prop := ∃ (l : List AL.Stmt) (nx : Int),r = .tup [sl aN l,iv nx] ∧ ((nx = -1 ∧ l = []) ∨ (0 ≤ i ∧ i + 2 ≤ nx ∧ nx ≤ s.size ∧ (aR l : Int) ≤ nx - i))
def QL (s : ByteArray) (i : Int) (r : AV) : Prop := ∃ (l : List AL.Stmt) (nx : Int),r = .tup [sl aN l,iv nx] ∧ ((nx = -1 ∧ l = []) ∨ (i ≤ nx ∧ nx ≤ s.size ∧ (aR l : Int) ≤ nx - i))
theorem kT {s w:ByteArray}{i:Int}(h:Fy s i w = true):0 ≤ i ∧ i + w.size ≤ s.size:=by
 unfold Fy at h;simp only [Bool.and_eq_true,decide_eq_true_eq] at h;exact ⟨h.1,h.2.1⟩
theorem Sa {s:ByteArray}{i op x y n nx:Int}(h:nx = -1 ∨ (i < nx ∧ nx ≤ s.size + 3)):QP s i (.tup [.agg [iv op,iv x,iv y,iv n,.imm 0 [],.imm 0 []],iv nx]) :=
 ⟨.mk op x y n [] [],nx,rfl,by simp only [cH,aR]; omega⟩
theorem Se {s:ByteArray}{i op x y n nx:Int}{th:List AL.Stmt}(h:(nx = -1 ∧ (aR th:Int) ≤ s.size) ∨ (i < nx ∧ nx ≤ s.size + 3 ∧ (aR th:Int) + 1 ≤ nx - i)):QP s i (.tup [.agg [iv op,iv x,iv y,iv n,sl aN th,.imm 0 []],iv nx]) :=
 ⟨.mk op x y n th [],nx,rfl,by simp only [cH,aR]; omega⟩
theorem Sb {s:ByteArray}{i op x y n nx:Int}{th el:List AL.Stmt}(h:(nx = -1 ∧ (aR th:Int) + aR el ≤ s.size) ∨ (i < nx ∧ nx ≤ s.size + 3 ∧ (aR th:Int) + aR el + 1 ≤ nx - i)):QP s i (.tup [.agg [iv op,iv x,iv y,iv n,sl aN th,sl aN el],iv nx]) :=
 ⟨.mk op x y n th el,nx,rfl,by simp only [cH]; omega⟩
theorem QP.pur {s:ByteArray}{i:Int}{r:AV}(h:QP s i r):r.pur = true := by obtain ⟨x,nx,rfl,_⟩ := h;exact Pur.pf
theorem QB.pur {s:ByteArray}{i:Int}{r:AV}(h:QB s i r):r.pur = true := by obtain ⟨x,nx,rfl,_⟩ := h;exact Pur.pf
theorem QL.pur {s:ByteArray}{i:Int}{r:AV}(h:QL s i r):r.pur = true := by obtain ⟨x,nx,rfl,_⟩ := h;exact Pur.pf
theorem uC {P:Program}{s:AS}{res:Array ResultVar}{q:AV → Prop}{l:List AV}(hQ:∀ r,q r → r.pur = true) (hr:xE P (lk s.ts) (aT s.hs) res.toList = some l) (h:q (aM l)):pB P res (fun r _ => q r ∧ r.pur = true) .ret s := aC hr ⟨h,hQ _ h⟩
theorem Bj (s:ByteArray) (i dp:Int) (hs:s.size ≤ 100000) (hi0:0 ≤ i) (hi:i ≤ s.size) (hd0:0 ≤ dp) (hd:dp ≤ 10) (braces_ih:∀ j dj:Int,dj = dp - 1 → -1 ≤ j → j ≤ s.size + 10 → PC Tryz.prog 174 [sv s,iv j,iv dj] (QB s j)):PC Tryz.prog 145 [sv s,iv i,iv dp] (QP s i):=by
 have h1 : Fy s i ⟨#[100,114,111,112,32]⟩ = true → i + 5 ≤ s.size := fun h => (kT h).2
 have h2 : Fy s i ⟨#[108,111,111,112,123]⟩ = true → i + 5 ≤ s.size := fun h => (kT h).2
 have h3 : Fy s i ⟨#[105,102,123]⟩ = true → i + 3 ≤ s.size := fun h => (kT h).2
 have h4 : Fy s i ⟨#[42]⟩ = true → i + 1 ≤ s.size := fun h => (kT h).2
 have h5 : Fy s (i + 1) ⟨#[61]⟩ = true → i + 1 + 1 ≤ s.size := fun h => (kT h).2
 have h6 : Fy s (i + 2) ⟨#[98,111,120,32]⟩ = true → i + 2 + 4 ≤ s.size := fun h => (kT h).2
 have h7 : Fy s (i + 2) ⟨#[38,109,117,116,32]⟩ = true → i + 2 + 5 ≤ s.size := fun h => (kT h).2
 refine aB Tryz.func145 Tryz.ntmps145 ?_
 repeat' (first|(apply aF;(first|(apply aA (k := 144);rfl;(apply vG <;> (first|omega|decide));(rfl);rfl)|(apply aA (k := 173);rfl;(apply LC <;> (omega));(rfl);rfl)|(apply jE (k := 174);rfl;(apply braces_ih <;> (omega));(rfl);rfl;(rintro _ ⟨l,nx,rfl,hql⟩ _))|(apply aA (k := 175);rfl;(apply G3 <;> (omega));(rfl);rfl)))|refine aE ?_|(refine aK ?_ ?_ <;> intro hc hq <;> try (exfalso;omega))|(refine bK ?_ ?_ <;> intro hg hq <;> try (exfalso;omega))|fail)
 all_goals refine uC (fun _ => QP.pur) (l := [.agg [_,_,_,_,_,_],_]) rfl ?_
 all_goals (try have b1 := h1 (by assumption))
 all_goals (try have b2 := h2 (by assumption))
 all_goals (try have b3 := h3 (by assumption))
 all_goals (try have b4 := h4 (by assumption))
 all_goals (try have b5 := h5 (by assumption))
 all_goals (try have b6 := h6 (by assumption))
 all_goals (try have b7 := h7 (by assumption))
 all_goals clear h1 h2 h3 h4 h5 h6 h7
 all_goals first
  | (refine Sa ?_; omega)
  | skip
 ·refine Se (th := l) ?_
  rcases hql with ⟨h8,h9⟩|hql
  ·rw [h9]; simp only [aR]; omega
  ·omega
 ·rename_i l1 nx1 hql1 hpu1 hpu2
  refine Sb (th := l1) (el := l) ?_
  rcases hql1 with ⟨h8,h9⟩|hql1 <;> rcases hql with ⟨h10,h11⟩|hql
  ·rw [h9,h11]; simp only [aR]; omega
  ·omega
  ·rw [h11]; simp only [aR]; omega
  ·omega
theorem xM (s:ByteArray) (i dp:Int) (hs:s.size ≤ 100000) (hi0:-1 ≤ i) (hi:i ≤ s.size + 10) (hd0:-1 ≤ dp) (hd:dp ≤ 10) (list_ih:∀ j dj:Int,0 ≤ dp → dj = dp → 0 ≤ j → j ≤ s.size → PC Tryz.prog 100 [sv s,iv j,iv dj] (QL s j)):PC Tryz.prog 174 [sv s,iv i,iv dp] (QB s i):=by
 have h1 : Fy s i ⟨#[123]⟩ = true → 0 ≤ i ∧ i + 1 ≤ s.size := fun h => kT h
 refine aB Tryz.func174 Tryz.ntmps174 ?_
 repeat' (first|(apply aF;(apply aA (k := 144);rfl;(apply vG <;> (first|omega|decide));(rfl);rfl))|refine aE ?_|(refine aK ?_ ?_ <;> intro hc hq <;> try (exfalso;omega))|(refine bK ?_ ?_ <;> intro hg hq <;> try (exfalso;omega))|fail)
 ·refine aO (Le.nilImm (d := 6) rfl) ?_
  exact uC (fun _ => QB.pur) (l := [.imm 0 [],iv (-1)]) rfl ⟨[],-1,rfl,.inl ⟨rfl,rfl⟩⟩
 ·have b1 := h1 (by assumption)
  repeat' (first|(apply aF;(first|(apply jE (k := 100);rfl;(apply list_ih <;> (first|assumption|omega));(rfl);rfl;(rintro _ ⟨l,nx,rfl,hql⟩ _))|(apply aA (k := 144);rfl;(apply vG <;> (first|omega|decide));(rfl);rfl)))|refine aE ?_|(refine aK ?_ ?_ <;> intro hc hq <;> try (exfalso;omega))|fail)
  ·refine aO (Le.nilImm (d := 6) rfl) ?_
   exact uC (fun _ => QB.pur) (l := [.imm 0 [],iv (-1)]) rfl ⟨[],-1,rfl,.inl ⟨rfl,rfl⟩⟩
  ·have b2 : 0 ≤ nx ∧ nx + 1 ≤ s.size := kT (w := ⟨#[125]⟩) (by assumption)
   exact uC (fun _ => QB.pur) (l := [sl aN l,iv (nx + 1)]) rfl ⟨l,nx + 1,rfl,by omega⟩
 ·refine aO (Le.nilImm (d := 6) rfl) ?_
  exact uC (fun _ => QB.pur) (l := [.imm 0 [],iv (-1)]) rfl ⟨[],-1,rfl,.inl ⟨rfl,rfl⟩⟩
theorem EM (s:ByteArray) (i dp:Int) (hs:s.size ≤ 100000) (hi0:0 ≤ i) (hi:i ≤ s.size) (hd0:0 ≤ dp) (hd:dp ≤ 10) (parse_ih:∀ j dj:Int,dj = dp → 0 ≤ j → j ≤ s.size → PC Tryz.prog 145 [sv s,iv j,iv dj] (QP s j)):PC Tryz.prog 100 [sv s,iv i,iv dp] (QL s i):=by
 refine aB Tryz.func100 Tryz.ntmps100 ?_
 repeat' (first|(apply aF;(apply aA (k := 144);rfl;(apply vG <;> (first|omega|decide));(rfl);rfl))|refine aE ?_|(refine aK ?_ ?_ <;> intro hc hq <;> try (exfalso;omega))|(refine bK ?_ ?_ <;> intro hg hq <;> try (exfalso;omega))|fail)
 rotate_left 1
 ·refine aH (σ := Int × List AL.Stmt × Nat) [0, 2] [] (fun k => [(1, iv k.1), (8, .own 0 0 k.2.2 6)]) (fun k => [(0, some (flat aN k.2.1))]) (fun k => i ≤ k.1 ∧ k.1 ≤ s.size ∧ k.2.2 = k.2.1.length ∧ (aR k.2.1 : Int) ≤ k.1 - i) (fun k => (s.size - k.1).toNat) (i, [], 0) ⟨by omega, by omega, rfl, by simp [aR]⟩ ?_
  rintro ⟨k,xs,m⟩ ⟨hk0,hk,hm,hc⟩
  dsimp only at hk0 hk hm hc ⊢
  have hln := dX xs
  repeat' (first|(apply aF;first|(apply aJ (t := _);rfl;rfl;rfl;(exact (rfl:_=some [_,_,_,_,_,_]));rfl;rfl)|(first|(apply aA (k := 144);rfl;(apply vG <;> (first|omega|decide));(rfl);rfl)|(apply jE (k := 145);rfl;(apply parse_ih <;> (first|assumption|omega));(rfl);rfl;(rintro _ ⟨x,nx,rfl,hqx⟩ _))))|refine aE ?_|(refine aK ?_ ?_ <;> intro hc hq <;> try (exfalso;omega))|(refine bK ?_ ?_ <;> intro hg hq <;> try (exfalso;omega))|fail)
  ·refine aO (Le.nilImm (d := 6) rfl) ?_
   exact uC (fun _ => QL.pur) (l := [.imm 0 [],iv (-1)]) rfl ⟨[],-1,rfl,.inl ⟨rfl,rfl⟩⟩
  ·refine aO (Le.frzD (d := 6) (i := 3) rfl rfl) ?_
   refine uC (fun _ => QL.pur) (l := [.imm (m + 1) (flat aN (xs ++ [x])),iv nx]) rfl ⟨xs ++ [x],nx,?_,?_⟩
   ·show AV.tup [AV.imm (m + 1) _, _] = AV.tup [AV.imm (List.length (xs ++ [x])) _, _]
    rw [List.length_append,hm]; rfl
   ·rw [fZ]; simp only [aR]; omega
  ·have b2 : 0 ≤ nx ∧ nx + 1 ≤ s.size := kT (w := ⟨#[59]⟩) (by assumption)
   (refine bB (nx + 1,xs ++ [x],m + 1) (Le.renA [(0,3)]) ?_ ?_)
   ·dsimp only
    refine ⟨by omega,by omega,by simp [hm],?_⟩
    rw [fZ]; simp only [aR]; omega
   ·dsimp only;omega
  ·refine aO (Le.nilImm (d := 6) rfl) ?_
   exact uC (fun _ => QL.pur) (l := [.imm 0 [],iv (-1)]) rfl ⟨[],-1,rfl,.inl ⟨rfl,rfl⟩⟩
 ·refine aO (Le.frzD (d := 6) (i := 0) rfl rfl) ?_
  exact uC (fun _ => QL.pur) (l := [.imm 0 [],iv i]) rfl ⟨[],i,rfl,by simp only [aR]; omega⟩
 ·refine aO (Le.frzD (d := 6) (i := 0) rfl rfl) ?_
  exact uC (fun _ => QL.pur) (l := [.imm 0 [],iv i]) rfl ⟨[],i,rfl,by simp only [aR]; omega⟩
theorem B1 (s:ByteArray) (hs:s.size ≤ 100000):∀ n:Nat,n ≤ 10 → (∀ j:Int,-1 ≤ j → j ≤ s.size + 10 → PC Tryz.prog 174 [sv s,iv j,iv ((n:Int) - 1)] (QB s j)) ∧ (∀ j:Int,0 ≤ j → j ≤ s.size → PC Tryz.prog 100 [sv s,iv j,iv (n:Int)] (QL s j))
 | 0, hn => by
  have hB : ∀ j : Int, -1 ≤ j → j ≤ s.size + 10 → PC Tryz.prog 174 [sv s, iv j, iv (((0 : Nat) : Int) - 1)] (QB s j) :=
   fun j h0 h1 => xM s j (((0 : Nat) : Int) - 1) hs h0 h1 (by omega) (by omega) (fun _ _ h => by omega)
  have hP : ∀ j : Int, 0 ≤ j → j ≤ s.size → PC Tryz.prog 145 [sv s, iv j, iv ((0 : Nat) : Int)] (QP s j) :=
   fun j h0 h1 => Bj s j _ hs h0 h1 (by omega) (by omega) (fun k dj h2 h3 h4 => by subst h2;exact hB k h3 h4)
  exact ⟨hB,fun j h0 h1 => EM s j _ hs h0 h1 (by omega) (by omega) (fun k dj h2 h3 h4 => by subst h2;exact hP k h3 h4)⟩
 | n + 1, hn => by
  have ih := B1 s hs n (by omega)
  have e : (((n + 1 : Nat) : Int) - 1) = (n : Int) := by omega
  have hB : ∀ j : Int, -1 ≤ j → j ≤ s.size + 10 → PC Tryz.prog 174 [sv s, iv j, iv (((n + 1 : Nat) : Int) - 1)] (QB s j) :=
   fun j h0 h1 => xM s j _ hs h0 h1 (by omega) (by omega) (fun k dj h2 h3 h4 h5 => by rw [e] at h3;subst h3;exact ih.2 k h4 h5)
  have hP : ∀ j : Int, 0 ≤ j → j ≤ s.size → PC Tryz.prog 145 [sv s, iv j, iv ((n + 1 : Nat) : Int)] (QP s j) :=
   fun j h0 h1 => Bj s j _ hs h0 h1 (by omega) (by omega) (fun k dj h2 h3 h4 => by subst h2;exact hB k h3 h4)
  exact ⟨hB,fun j h0 h1 => EM s j _ hs h0 h1 (by omega) (by omega) (fun k dj h2 h3 h4 => by subst h2;exact hP k h3 h4)⟩
theorem LY (s:ByteArray) (i:Int) (hs:s.size ≤ 100000) (hi0:0 ≤ i) (hi:i ≤ s.size):PC Tryz.prog 100 [sv s,iv i,iv 4] (QL s i) := (B1 s hs 4 (by omega)).2 i hi0 hi
theorem D5 (v:Int) (h0:0 ≤ v) (h1:v ≤ 25):PC Tryz.prog 194 [iv v] (fun r => r = sv (gC v)):=by
 refine aB Tryz.func194 Tryz.ntmps194 ?_
 repeat' (first|(apply aF;first|(apply L4;rfl;rfl;omega;rfl)|(apply Dy (ns := [_]);rfl;rfl;rfl)|(apply vW;rfl;omega;rfl))|refine aE ?_|refine cV ?_|fail)
 exact ⟨rfl,rfl⟩
theorem Kw (n:Int) (h0:0 ≤ n) (h1:n ≤ 9):PC Tryz.prog 195 [iv n] (fun r => r = sv (AJ n)):=by
 refine aB Tryz.func195 Tryz.ntmps195 ?_
 repeat' (first|refine aE ?_|(refine aK ?_ ?_ <;> intro hc hq <;> try (exfalso;omega))|fail)
 refine aH (σ := Unit) [0,3] [] (fun u => []) (fun u => []) (fun u => True) (fun u => 0) () trivial ?_
 rintro u _
 repeat' (first|(apply aF;first|(apply fO;rfl;rfl;(rfl);rfl)|(apply Dy (ns := [_]);rfl;rfl;rfl)|(apply vW;rfl;omega;rfl))|refine aE ?_|(refine aK ?_ ?_ <;> intro hc hq <;> try (exfalso;omega))|refine cV ?_|fail)
 exact ⟨rfl,rfl⟩
theorem FT (s:AL.Stmt) (hc:cH s ≤ 10000) (hop:(s.op = 9 ∨ s.op = 10) ∨ (1 ≤ s.op ∧ s.op ≤ 8 ∧ 0 ≤ s.x ∧ s.x ≤ 5 ∧ 0 ≤ s.y ∧ s.y ≤ 5 ∧ (s.op = 1 ∨ s.op = 2 → 0 ≤ s.n ∧ s.n ≤ 9)))
  (hth : s.op = 9 ∨ s.op = 10 → PC Tryz.prog 146 [sl aN s.th] (fun r => r = sv (jR s.th))) (hel : s.op = 9 → PC Tryz.prog 146 [sl aN s.el] (fun r => r = sv (jR s.el))) : PC Tryz.prog 176 [eQ s] (fun r => r = sv (jW s)) := by
 have k1 := lM s.th
 have k2 := lM s.el
 have k3 := gM s
 refine aB Tryz.func176 Tryz.ntmps176 ?_
 repeat' (first|(apply aF;first|(apply fO;rfl;rfl;(first|rfl|exact oC (by (simp only [ByteArray.size_append,jK,List.length_cons,List.length_nil,hG,fY,lJ] <;> omega)));rfl)|(first|(apply aA (k := 146);rfl;(first|(apply hth;omega)|(apply hel;omega));exact Pur.pf;rfl)|(apply aA (k := 194);rfl;(apply D5 <;> (omega));(rfl);rfl)|(apply aA (k := 195);rfl;(apply Kw <;> (omega));(rfl);rfl)))|refine aE ?_|(refine aK ?_ ?_ <;> intro hc hq <;> try (exfalso;omega))|refine bH ?_|refine cV ?_|fail)
 all_goals (refine ⟨?_,rfl⟩; rw [yX]; repeat' split)
 all_goals (first|rfl|omega)
theorem BG (l:List AL.Stmt) (hc:aR l ≤ 10000) (text_ih:∀ k,k < l.length → PC Tryz.prog 176 [eQ l[k]!] (fun r => r = sv (jW l[k]!))):PC Tryz.prog 146 [sl aN l] (fun r => r = sv (jR l)):=by
 have hlen := dX l
 refine aB Tryz.func146 Tryz.ntmps146 ?_
 repeat' (first|refine aE ?_|fail)
 refine aH (σ := Nat × ByteArray) [0] [] (fun k => [(4,iv (k.1 : Int)),(3,sv k.2)]) (fun k => []) (fun k => k.1 ≤ l.length ∧ k.2 = jR (l.take k.1)) (fun k => l.length - k.1) (0,⟨#[]⟩) ⟨by omega,rfl⟩ ?_
 rintro ⟨k,t⟩ ⟨hk,ht⟩
 dsimp only at hk ht ⊢
 have k1 := lM (l.take k)
 have k2 := oQ l[k]!
 have hck := gP l k
 have hct : aR (l.take k) ≤ aR l := by have := fZ (l.take k) (l.drop k);rw [List.take_append_drop] at this;omega
 have k3 : t.size = (jR (l.take k)).size := by rw [ht]
 repeat' (first|(apply aF;first|(apply fO;rfl;rfl;(exact oC (by (first|omega|(simp only [ByteArray.size_append,jK,List.length_cons,List.length_nil,hG,fY,lJ] <;> omega))));rfl)|(apply aA (k := 176);rfl;(apply text_ih <;> (omega));exact Pur.pf;rfl))|refine aE ?_|(refine aK ?_ ?_ <;> intro hc hq <;> try (exfalso;omega))|refine cV ?_|fail)
 ·(refine bB (k + 1, _) (Le.renA []) ?_ ?_)
  ·exact ⟨by dsimp only;omega,by dsimp only;rw [wM l k (by omega),sT,if_pos (by omega),ht]⟩
  ·dsimp only;omega
 ·(refine bB (k + 1, _) (Le.renA []) ?_ ?_)
  ·exact ⟨by dsimp only;omega,by dsimp only;rw [wM l k (by omega),sT,if_neg (by omega),ht]⟩
  ·dsimp only;omega
 ·have hke : k = l.length := by omega
  refine ⟨?_,rfl⟩
  rw [ht,hke,List.take_length]; rfl
theorem Ky (ts:List Int) (hts:bW ts = true):∀ m:Nat,m ≤ 10000 → ∀ l d,aR l ≤ m → okL ts d l = true → PC Tryz.prog 146 [sl aN l] (fun r => r = sv (jR l)):=by
 intro m
 induction m with
 | zero =>
  intro hm l d hc ho
  have := dX l
  exact BG l (by omega) (fun k hk => by omega)
 | succ m ih =>
  intro hm l d hc ho
  refine BG l (by omega) (fun k hk => ?_)
  have hck := gP l k hk
  have hct := l9 l[k]!
  have hs : sV ts d l[k]! = true := by rw [y6,kG] at ho;exact ho k hk
  rw [EO] at hs
  by_cases h9 : l[k]!.op ≠ 9 ∧ l[k]!.op ≠ 10
  ·rw [if_pos h9] at hs
   simp only [Bool.and_eq_true] at hs
   exact FT _ (by omega) (.inr (xS hts hs.2)) (fun h => by omega) (fun h => by omega)
  ·rw [if_neg h9] at hs
   cases d with
   | zero => cases hs
   | succ d =>
    simp only [Bool.and_eq_true] at hs
    exact FT _ (by omega) (.inl (by omega)) (fun h => ih (by omega) _ d (by omega) hs.1.2) (fun h => ih (by omega) _ d (by omega) hs.2)
theorem H6 (ts:List Int) (d:Nat) (l:List AL.Stmt) (hts:bW ts = true) (hc:aR l ≤ 10000) (ho:okL ts d l = true):PC Tryz.prog 146 [sl aN l] (fun r => r = sv (jR l)) := Ky ts hts _ hc l d (Nat.le_refl _) ho
def DR (s : ByteArray) : List AV := [.v (.string s)]
instance : FlT DR 1:=⟨fun _ => rfl⟩
instance : FE DR (fun s => [.v (.string s)]):=⟨fun _ => rfl⟩
instance (s : ByteArray) : Pur (DR s):=⟨rfl⟩
theorem Le.slotEq {ts:List (Nat × AV)}{hs:List (Nat × Option (List AV))}{n:Nat}{z0:Lo}{d:Nat}(v v':AV) (hd:lk ts d = some v) (h:v = v'):Le ⟨ts,hs,n,z0⟩ ⟨(d,v') :: ts,hs,n,z0⟩ :=
 Le.slot hd fun w bad ι y hr => h ▸ hr
def kinds : List ByteArray := [⟨#[]⟩,⟨#[105]⟩,⟨#[98]⟩,⟨#[114]⟩,⟨#[109]⟩]
theorem DE (k:Nat):(kinds[k]!).size ≤ 1:=by
 match k with
 | 0 => decide
 | 1 => decide
 | 2 => decide
 | 3 => decide
 | 4 => decide
 | k + 5 => exact (show (default : ByteArray).size ≤ 1 from by decide)
theorem CX (p:Prg) (hv:bE p = true):PC Tryz.prog 101 [bI p] (fun r => ∃ t,r = sv t):=by
 have hv2 := hv
 simp only [bE,Bool.and_eq_true,decide_eq_true_eq] at hv2
 obtain ⟨⟨hts,hol⟩,hcn⟩ := hv2
 have hl6 := iQ hts
 have htx := lM p.body
 refine aB Tryz.func101 Tryz.ntmps101 ?_
 repeat' (first|refine aE ?_|fail)
 refine aH (σ := Nat × ByteArray) [1] [0] (fun k => [(4,iv (k.1 : Int)),(3,sv k.2)]) (fun k => []) (fun k => k.1 ≤ p.types.length ∧ k.2.size ≤ k.1) (fun k => p.types.length - k.1) (0,⟨#[]⟩) ⟨by omega,by show 0 ≤ 0;omega⟩ ?_
 rintro ⟨k,t⟩ ⟨hk,ht⟩
 dsimp only at hk ht ⊢
 have htk := lW hts k
 have hkz : (kinds[(p.types[k]!).toNat]!).size ≤ 1 := DE _
 have hkl : kinds.length = 5 := rfl
 repeat' (first|(apply aF;first|(with_reducible apply aZ (d := 14))|(apply aA (k := 146);rfl;exact H6 p.types 4 p.body hts (by omega) hol;exact Pur.pf;rfl)|(apply fO;rfl;rfl;(exact oC (by (simp only [ByteArray.size_append,jK,List.length_cons,List.length_nil,hG,fY,lJ] <;> omega)));rfl)|(apply aJ (t := _);rfl;rfl;rfl;(exact (rfl:_=some [_,_,_,_,_]));rfl;rfl))|refine aE ?_|(refine aK ?_ ?_ <;> intro hc hq <;> try (exfalso;omega))|fail)
 ·refine bY (cX ?_ (Le.slotEq (d := 13) _ (.imm 5 (flat DR kinds)) rfl rfl))
  repeat' (first|(apply aF;(apply fO;rfl;rfl;(exact oC (by (omega)));rfl))|refine aE ?_|fail)
  (refine bB (k + 1,_) (Le.renA [(0,0)]) ?_ ?_)
  ·exact ⟨by dsimp only;omega,by dsimp only;rw [ByteArray.size_append]; omega⟩
  ·dsimp only;omega
 ·refine aC rfl ⟨⟨_,rfl⟩,rfl⟩
theorem Jq {s:ByteArray}(b:Bool):(∃ (q:Prg) (b':Bool),AV.tup [AV.agg [.imm 0 [],.imm 0 []],bv b] = .tup [bI q,bv b'] ∧ aR q.body ≤ s.size + 10 ∧ q.types.length ≤ s.size + 10) :=
 ⟨⟨[],[]⟩,b,rfl,by simp [aR],by simp⟩
theorem uZ (s:ByteArray) (hs:s.size ≤ 10000):PC Tryz.prog 61 [sv s] (fun r => ∃ (q:Prg) (b:Bool),r = .tup [bI q,bv b] ∧ aR q.body ≤ s.size + 10 ∧ q.types.length ≤ s.size + 10):=by
 refine aB Tryz.func61 Tryz.ntmps61 ?_
 repeat' (first|(apply aF;(with_reducible apply aZ (d := 13)))|refine aE ?_|(refine aK ?_ ?_ <;> intro hc hq <;> try (exfalso;omega))|fail)
 ·exact aC (l := [.agg [.imm 0 [],.imm 0 []],bv false]) rfl ⟨Jq false,rfl⟩
 refine bY ?_
 apply mQ
 case hl => rfl
 case hf => exact (rfl:_=some [AV.v (.slice none 0 0),AV.v (.slice none 0 0)])
 case hN => rfl
 repeat' (first|refine aE ?_|fail)
 apply AW.le
 case k => exact Le.nilCell (i := 1) 1 [] rfl (by decide) (by decide)
 refine aH (σ := Nat × List Int × Nat) [0,2,4] [0] (fun k => [(5,iv (k.1 : Int))]) (fun k => [(1,some [.own 2 0 k.2.2 1,.v (.slice none 0 0)]),(2,some (flat cI k.2.1))]) (fun k => k.1 ≤ s.size ∧ k.2.1.length = k.1 ∧ k.2.2 = k.2.1.length) (fun k => s.size - k.1) (0,[],0) ⟨by omega,rfl,rfl⟩ ?_
 rintro ⟨k,xs,m⟩ ⟨hk,hxl,hm⟩
 dsimp only at hk hxl hm ⊢
 repeat' (first|(apply aF;first|(with_reducible apply aZ (d := 43))|(apply qY;rfl;rfl;omega;rfl)|(apply aJ (t := _);rfl;rfl;rfl;exact (rfl:_=some [_]);rfl;rfl))|refine aE ?_|(refine aK ?_ ?_ <;> intro hc hq <;> try (exfalso;omega))|(refine bK ?_ ?_ <;> intro hg hq <;> try (exfalso;omega))|fail)
 ·(refine bB (k + 1, xs ++ [1], m + 1) (Le.renA [(0, 0), (1, 1), (2, 4)]) ?_ ?_)
  ·exact ⟨by dsimp only;omega,by simp [hxl],by simp [hm]⟩
  ·dsimp only;omega
 ·(refine bB (k + 1, xs ++ [2], m + 1) (Le.renA [(0, 0), (1, 1), (2, 4)]) ?_ ?_)
  ·exact ⟨by dsimp only;omega,by simp [hxl],by simp [hm]⟩
  ·dsimp only;omega
 ·(refine bB (k + 1, xs ++ [3], m + 1) (Le.renA [(0, 0), (1, 1), (2, 4)]) ?_ ?_)
  ·exact ⟨by dsimp only;omega,by simp [hxl],by simp [hm]⟩
  ·dsimp only;omega
 ·(refine bB (k + 1, xs ++ [4], m + 1) (Le.renA [(0, 0), (1, 1), (2, 4)]) ?_ ?_)
  ·exact ⟨by dsimp only;omega,by simp [hxl],by simp [hm]⟩
  ·dsimp only;omega
 ·(refine bB (k + 1, xs ++ [0], m + 1) (Le.renA [(0, 0), (1, 1), (2, 4)]) ?_ ?_)
  ·exact ⟨by dsimp only;omega,by simp [hxl],by simp [hm]⟩
  ·dsimp only;omega
 all_goals subst hm
 all_goals (refine bY (cX ?_ (Le.frzC (j := 1) (i := 2) [] rfl rfl (by decide))))
 all_goals repeat' (first|(apply aF;first|(apply jE (k := 100);rfl;(apply LY <;> omega);(rfl);rfl;(rintro _ ⟨l,nx,rfl,hql⟩ _))|(apply aA (k := 63);rfl;(exact jU ⟨xs,l⟩ (by show xs.length ≤ _; omega) (by show aR l ≤ 100000000;rcases hql with ⟨_,h9⟩|h9;(rw [h9]; decide);omega));exact Pur.pf;rfl)|(apply jE (k := 101);rfl;exact CX ⟨xs,l⟩ (by assumption);exact Pur.pf;rfl;(rintro _ ⟨t,rfl⟩ _))|(apply fO;rfl;rfl;(rfl);rfl))|refine aE ?_|(refine aK ?_ ?_ <;> intro hc hq <;> try (exfalso;omega))|(refine bK ?_ ?_ <;> intro hg hq <;> try (exfalso;omega))|fail)
 all_goals first
  | exact aC (l := [.agg [.imm 0 [],.imm 0 []],bv false]) rfl ⟨Jq false,rfl⟩
  | (refine aC (l := [.agg [.imm xs.length (flat cI xs), sl aN l], bv true]) rfl ⟨⟨⟨xs, l⟩, true, rfl, ?_, by show xs.length ≤ _; omega⟩, Pur.pf⟩
     show aR l ≤ _
     rcases hql with ⟨_,h9⟩|h9
     ·rw [h9]; simp [aR]
     ·omega)
end Go.Proofs.YteidfaaldcedpaaGreatDoor
