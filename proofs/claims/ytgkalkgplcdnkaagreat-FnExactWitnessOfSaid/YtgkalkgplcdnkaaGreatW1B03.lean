/-
 A part of the proofs over this program: rules and contracts of its functions (the contracts).
-/
import Derived.Test.YtgkalkgplcdnkaaGreatW1B02
set_option linter.unusedVariables false
set_option linter.unusedSimpArgs false
set_option maxHeartbeats 8000000
set_option maxRecDepth 4000
attribute [local irreducible] Go.AL.RW Go.AL.AW Go.AL.Stop
namespace Go.Proofs.YtgkalkgplcdnkaaGreat
open Go.AL Go.RowKit
variable {N : Nat} {Q : Exit → AS → Prop} {all : Array Oper} {rest : List Oper} {tsl : List (Nat × AV)} {hsl : List (Nat × Option (List AV))} {nidl : Nat} {z0 : Lo} {md : Md} {d : Nat} {ty : TypeId} {pos : String} {af : Array Edge} {tys : Array TypeId}
def DK (nv N : Nat) (i : Nat) : List AV := [.imm nv (flat (vY (i * (nv + 1)) N) (List.range nv)),.own (i * (nv + 1) + nv + aT) 0 N 1]
instance (nv N : Nat) : FlT (DK nv N) 2:=⟨fun _ => rfl⟩
instance (nv N : Nat) : FE (DK nv N) (fun i => [.imm nv (flat (vY (i * (nv + 1)) N) (List.range nv)),.own (i * (nv + 1) + nv + aT) 0 N 1]):=⟨fun _ => rfl⟩
theorem oK {m:List (Nat × Nat)}{lo:Lo}{pn:Option Nat}{nv N k M:Nat}(hk:k ≤ M) (h:lo.fb = aT + M * (nv + 1)):RnL (iC m lo pn) (flat (DK nv N) (List.range k)) (flat (DK nv N) (List.range k)) :=
 RnL.flt fun i hi => by
  rw [List.mem_range] at hi
  have h1 : i * (nv + 1) + nv < M * (nv + 1) := fE (by omega) (by omega)
  exact .cons (.imm (cL (by rw [h]; omega))) (.cons (.own (fT (by omega) (by rw [h]; omega))) .nil)
theorem FP {m:List (Nat × Nat)}{lo:Lo}{pn:Option Nat}{nv N k:Nat}(h:lo.fb = aT + (k + 1) * (nv + 1)):RnL (iC m lo pn) (flat (DK nv N) (List.range (k + 1))) (((flat (DK nv N) (List.range k)).drop 0).take (k * 2) ++ DK nv N k):=by
 have e : ((flat (DK nv N) (List.range k)).drop 0).take (k * 2) = flat (DK nv N) (List.range k) := List.take_of_length_le (by rw [List.drop_zero,aK (DK nv N) (e := 2)]; simp)
 have := oK (m := m) (pn := pn) (N := N) (Nat.le_refl (k + 1)) h
 rw [e]
 rw [List.range_succ,← bX,kE] at this ⊢
 exact this
def KK (s : List (List Bool) × List Bool) : List AV := [sl fQ s.1,sl cB s.2]
instance : FlT KK 2:=⟨fun _ => rfl⟩
instance : FE KK (fun s => [sl fQ s.1,sl cB s.2]):=⟨fun _ => rfl⟩
theorem IF {D:List Nat}{hs:List (Nat × Option (List AV))}{R:List (List Bool)}{nv N M n:Nat}(hF:FamR R R hs hs) (hD:∀ k,k < nv + 1 → n * (nv + 1) + k + aT ∈ D) (hlo:R.length = M * (nv + 1)) (hn:n < M) (hro:∀ q,q < R.length → R[q]!.length = N) :
  LdL D (aO hs) (DK nv N n) [sl fQ (iS nv R n),sl cB (jH nv R n)] := by
 have h1 : n * (nv + 1) + nv < M * (nv + 1) := fE hn (by omega)
 have h2 : (iS nv R n).length = nv := pM hlo hn
 have h3 : (jH nv R n).length = N := hro _ (by omega)
 have e1 : sl fQ (iS nv R n) = .imm nv (flat fQ ((R.drop (n * (nv + 1))).take nv)) := by unfold sl;rw [h2]; rfl
 have e2 : sl cB (jH nv R n) = .imm N (flat cB (jH nv R n)) := by unfold sl;rw [h3]
 rw [e1,e2]
 exact .cons (.imm (LdL.rows hF (fun k hk => hD k (by omega)) (by omega) (fun k hk => hro _ (by omega)))) (.cons (.own (hD nv (by omega)) (hF.get (by omega)) (.pur (inferInstance : Pur (flat cB _)).pf)) .nil)
def G5 (b : Nat) : List Nat := [b + 0 + aT,b + 1 + aT,b + 2 + aT,b + 3 + aT,b + 4 + aT,b + 5 + aT,b + 6 + aT]
theorem xX {b k:Nat}(h:k < 7):b + k + aT ∈ G5 b:=by
 unfold G5
 match k,h with
 | 0,_ => simp
 | 1,_ => simp
 | 2,_ => simp
 | 3,_ => simp
 | 4,_ => simp
 | 5,_ => simp
 | 6,_ => simp
theorem rF {nv N n k:Nat}{R:List (List Bool)}(hlo:R.length = N * (nv + 1)) (hn:n < N) (hk:k < nv + 1):((R.drop (n * (nv + 1))).take (nv + 1))[k]! = R[n * (nv + 1) + k]!:=by
 have h1 := fE hn hk
 have h2 : n * (nv + 1) + nv < N * (nv + 1) := fE hn (by omega)
 rw [aW _ _ (by rw [List.length_take,List.length_drop]; omega),aW _ _ (by omega),List.getElem_take,List.getElem_drop]
theorem jF {nv N n:Nat}{R:List (List Bool)}(hlo:R.length = N * (nv + 1)) (hn:n < N):((R.drop (n * (nv + 1))).take (nv + 1)).length = nv + 1:=by
 have h2 : n * (nv + 1) + nv < N * (nv + 1) := fE hn (by omega)
 rw [List.length_take,List.length_drop]; omega
theorem Dj (ts:List Int) (pts:List Pnt) (w:WG ts pts) (i:Nat) (hi:i < pts.length) (R:List (List Bool)) (h:FSd ts pts R) :
  Kj Tryz.prog 145 [sl cI ts,sl bK pts,iv (i : Int),JD 0 ts.length pts.length] ((R.drop (i * (ts.length + 1))).take (ts.length + 1)) (.agg [sl fQ (nV ts pts i (iS ts.length R i)),sl cB (nT ts pts i (jH ts.length R i))]) [] := by
 have h1 := Ds ts pts w i hi ((R.drop (i * (ts.length + 1))).take (ts.length + 1)) (jF h.lo hi) (fun k hk => by rw [rF h.lo hi hk]; exact h.ro _ (by rw [h.lo]; exact fE hi hk))
 rw [rF h.lo hi (by omega),List.take_take,show min ts.length (ts.length + 1) = ts.length from by omega] at h1
 exact h1
theorem Bj {ts:List Int}{pts:List Pnt}(w:WG ts pts){R:List (List Bool)}(h:FSd ts pts R){i v:Nat}(hi:i < pts.length) (hv:v < ts.length):(nV ts pts i (iS ts.length R i))[v]!.length = pts.length:=by
 rw [jL _ _ _ _ _ hv]
 split
 ·exact gW _ _ _ _
 ·split
  ·simp
  ·rw [fR h.lo hi hv]; exact h.ro _ (by rw [h.lo]; exact fE hi (by omega))
theorem qY {b:List Bool}{R:List (List Bool)}{k m:Nat}{x0 x1:Operand}(ha0:ev (lk tsl) x0 = some (.own (k + aT) 0 m 1)) (ha1:ev (lk tsl) x1 = some (sl cB b))
  (hF : FamR R R hsl hsl) (hk : k < R.length) (hm : m = R[k]!.length) (hab : b.length ≤ R[k]!.length) (hl : R[k]!.length ≤ 1048576) (hM : Nat.ble (nidl + 0) aT = true) (hN : Nat.blt d N = true) {md' : Md} [hmd : MdA md (jU [x0,x1] ++ [.inr (k + aT)]) [.inr (k + aT),.inl d] md']
  (kk : RW Tryz.prog N all Q md' rest ⟨(d,.tup []) :: tsl,(k + aT,some (flat cB (fH R[k]! b))) :: hsl,nidl + 0,z0⟩) : RW Tryz.prog N all Q md (⟨some d,.call ⟨.value (.func 147),#[x0,x1],tys⟩,ty,pos,af,none⟩ :: rest) ⟨tsl,hsl,nidl,z0⟩ :=
 yU (a := R[k]!) (b := b) (i0 := k + aT) ha0 ha1 (hF.get hk) (Bk R[k]! b m hm hab hl) hM hN (md' := md') (hmd := hmd) kk
theorem wY (p:Prg) (Af Ap:List Nat) (hs:aM p.body ≤ 1048576) (w:WG p.types (aB p)) (hAf:oP p.types (aB p) Af) (hAp:oT p.types (aB p) Ap):PC Tryz.prog 106 [cA p] (fun r => r = sl KK ((List.range (aB p).length).map (gE p.types.length (aB p).length Af Ap))):=by
 have hpl := w.pl
 have hp0 := w.p0
 have htl := w.tl
 refine aD Tryz.func106 Tryz.ntmps106 ?_
 repeat' (first|(apply aF;(apply aA (k := 27);rfl;exact dJ p hs;exact Pur.pf;rfl))|refine aC ?_|fail)
 refine dM (σ := Nat) (fun k => List.replicate ((p.types.length + 1) * k) (List.replicate (aB p).length false)) [1,3] [0] (fun k => [(5,iv (k : Int)),(4,.own 1 0 k 2)]) (fun k => [(1,some (flat (DK p.types.length (aB p).length) (List.range k)))]) (fun k => k ≤ (aB p).length) (fun k => (aB p).length - k) (0) (Nat.zero_le _) ?_
 intro k hk
 try dsimp only
 repeat' (first|(apply aF;first|(with_reducible apply cP (d := 27))|(with_reducible apply cP (d := 6)))|refine aC ?_|(refine aJ ?_ ?_ <;> intro hc hq <;> try (exfalso;omega))|fail)
 ·have hrep : List.replicate ((p.types.length + 1) * k) (List.replicate (aB p).length false) ++ List.replicate (p.types.length + 1) (List.replicate (aB p).length false) = List.replicate ((p.types.length + 1) * (k + 1)) (List.replicate (aB p).length false) := by
   rw [List.replicate_append_replicate,Nat.mul_succ]
  refine fF ?_
  have hst := CK p.types.length (aB p).length htl hpl
  apply Eg (R := List.replicate ((p.types.length + 1) * k) (List.replicate (aB p).length false)) (avs := [iv (p.types.length : Int),iv ((aB p).length : Int)]) (rr' := JD (k * (p.types.length + 1)) p.types.length (aB p).length) (h := hst)
  case ha => rfl
  case hp => rfl
  case hF => (repeat' (first|exact FamR.here|(apply FamR.cons;focus rfl)))
  case hz => rfl
  case hM => rfl
  case hN => rfl
  case hr =>
   refine .agg (.cons (.imm (rn_rows fun j hj => ?_)) (.cons (.own ?_) .nil))
   ·rw [if_pos (by rw [List.length_replicate]; omega)]; congr 1;rw [List.length_replicate,Nat.mul_comm]; omega
   ·rw [if_pos (by rw [List.length_replicate]; omega)]; congr 1;rw [List.length_replicate,Nat.mul_comm]; omega
  rw [hrep]
  repeat' (first|(apply aF;(apply cD;rfl;rfl;rfl;rfl;rfl;(case hl => (simp [aK]; done));(rfl);omega;omega;(rfl);rfl;rfl))|refine aC ?_|fail)
  (apply bC (k + 1);focus (refine Le.renF0 [(0,0),(1,3)] (R := ?qA1) (hF := ?qF1) (hz := ?qz1) (hm := ?qm1) (hn := ?qn1) (h1 := ?q11) (h2 := ?q21);(case qF1 => (repeat' (first|exact FamR.here|(apply FamR.cons;focus rfl))));(case qz1 => (rfl));(case qm1 => rfl);(case qn1 => decide);all_goals (repeat' (first|exact trivial|refine And.intro ⟨_,rfl,?_⟩ ?_|refine And.intro ⟨_,_,rfl,rfl,?_⟩ ?_|exact RnL.purI inferInstance|exact RnV.purI inferInstance|exact RnV.own rfl|exact RnV.optr rfl|exact FP (by show aT + (List.replicate ((p.types.length + 1) * (k + 1)) (List.replicate (aB p).length false)).length = _; rw [List.length_replicate,Nat.mul_comm])))))
  ·show k + 1 ≤ (aB p).length;omega
  ·show (aB p).length - (k + 1) < (aB p).length - k;omega
 ·have hkN : k = (aB p).length := by omega
  subst hkN
  refine fF (eG ?_ (Le.frzD (d := 4) (i := 1) rfl rfl))
  rw [Nat.mul_comm]
  repeat' (first|refine aC ?_|fail)
  refine dM (σ := List (List Bool) × Bool) (fun s => s.1) [1,3,4] [0] (fun s => [(6,bv s.2)]) (fun s => []) (fun s => FH p.types (aB p) s.1 s.2) (fun s => KY p.types (aB p) s.1 s.2) (List.replicate ((aB p).length * (p.types.length + 1)) (List.replicate (aB p).length false),true) (FH.init _ _) ?_
  rintro ⟨R,c⟩ hFH
  try dsimp only at hFH
  try dsimp only
  have hRl := hFH.d.lo
  have hRr := hFH.d.ro
  cases c with
  | false =>
   repeat' (first|refine aC ?_|fail)
   have hfin := hFH.final w hAf hAp
   refine bF (Le.frzAll (d := 2) (D := (List.range R.length).map fun k => k + aT) rfl (.imm (LdL.flt fun n hn => IF (R := R) (M := (aB p).length) (by (repeat' (first|exact FamR.here|(apply FamR.cons;focus rfl)))) (fun k hk => List.mem_map.2 ⟨n * (p.types.length + 1) + k,by rw [List.mem_range,hRl]; exact fE (List.mem_range.1 hn) hk,rfl⟩) hRl (List.mem_range.1 hn) hRr))) ?_
   refine aI rfl ⟨?_,(by (exact a8 _ _))⟩
   simp only [aN]
   have e1 : (List.range (aB p).length).map (fun n => (iS p.types.length R n, jH p.types.length R n)) = (List.range (aB p).length).map (gE p.types.length (aB p).length Af Ap) := List.map_congr_left fun n hn => by
    have := hfin n (List.mem_range.1 hn)
    rw [this.1,this.2]
   have e2 : flat (fun n => [sl fQ (iS p.types.length R n), sl cB (jH p.types.length R n)]) (List.range (aB p).length) = flat KK ((List.range (aB p).length).map (gE p.types.length (aB p).length Af Ap)) := by
    rw [← e1,flat,flat,List.flatMap_map]; rfl
   rw [e2]
   simp only [sl,List.length_map,List.length_range]
  | true =>
   have hst := hFH.start
   repeat' (first|refine aC ?_|fail)
   refine dM (σ := Nat × List (List Bool) × Bool) (fun s => s.2.1) [1,3,4] [0] (fun s => [(6,bv s.2.2),(7,iv (s.1 : Int))]) (fun s => []) (fun s => s.1 ≤ (aB p).length ∧ FS p.types (aB p) R s.2.1 s.2.2 (DF s.1 0)) (fun s => (aB p).length - s.1) (0,R,false) ⟨Nat.zero_le _,hst⟩ ?_
   rintro ⟨j,R1,c1⟩ ⟨hj,hS1⟩
   dsimp only at hj hS1
   have hl1 := hS1.d.lo
   try dsimp only
   by_cases hjn : j < (aB p).length
   ·have hnl := w.nl j hjn
    repeat' (first|(apply aF;first|(apply y8 (k := 145) (R := R1) (avs0 := [sl cI p.types,sl bK (aB p),iv (j : Int),JD 0 p.types.length (aB p).length]) (b := j * (p.types.length + 1)) (n1 := 0) (D := G5 (j * (p.types.length + 1))) (ws := []) (h := Dj p.types (aB p) w j hjn R1 hS1.d) (rr' := .agg [sl fQ (nV p.types (aB p) j (iS p.types.length R1 j)),sl cB (nT p.types (aB p) j (jH p.types.length R1 j))]);(case ha => rfl);(case hF => (repeat' (first|exact FamR.here|(apply FamR.cons;focus rfl))));(case hb => (rw [jF hl1 hjn]; have := fE (v := p.types.length) hjn (Nat.lt_succ_self _);omega));(case hR => exact fun k hk => rF hl1 hjn (by rwa [jF hl1 hjn] at hk));(case hD => exact fun k hk => xX (by rw [jF hl1 hjn] at hk;omega));(case har => exact .cons (RnV.purI inferInstance) (.cons (RnV.purI inferInstance) (.cons (RnV.purI inferInstance) (.cons (.agg (.cons (.imm (rn_rows fun k hk => (by rw [Nat.zero_add,lM (by rw [jF hl1 hjn]; omega)]))) (.cons (.own (by rw [Nat.zero_add,lM (by rw [jF hl1 hjn]; omega)])) .nil))) .nil))));(case hk => rfl);(case hr => exact RnV.purI inferInstance);(case hw => exact trivial);(case hM|hN => rfl))|(apply mB;rfl;rfl;(assumption);rfl;infer_instance;infer_instance;rfl)|(apply b8;rfl;rfl;rfl;rfl;rfl;(case hl => (simp;done));(exact (rfl:_=[_,_]))))|refine aC ?_|(refine aJ ?_ ?_ <;> intro hc hq <;> try (exfalso;omega))|refine cC ?_|fail)
    refine dM (σ := Nat × List (List Bool) × Bool) (fun s => s.2.1) [1,3,4,7,8] [0,2] (fun s => [(6,bv s.2.2),(9,iv (s.1 : Int))]) (fun s => []) (fun s => s.1 ≤ (aB p)[j]!.next.length ∧ FS p.types (aB p) R s.2.1 s.2.2 (DF j s.1) ∧ (s.2.2 = false → s.2.1 = R1)) (fun s => (aB p)[j]!.next.length - s.1) (0,R1,c1) ⟨Nat.zero_le _,hS1,fun _ => rfl⟩ ?_
    rintro ⟨kk,R2,c2⟩ ⟨hk,hS2,hc2⟩
    dsimp only at hk hS2 hc2
    have hl2 := hS2.d.lo
    have hr2 := hS2.d.ro
    try dsimp only
    by_cases hkn : kk < (aB p)[j]!.next.length
    ·have hnx := w.nx j hjn _ (aZ _ _ hkn)
     have hnn : ((aB p)[j]!.next[kk]!).toNat < (aB p).length := by omega
     have hix : ((aB p)[j]!.next[kk]!).toNat * (p.types.length + 1) + p.types.length < R2.length := by rw [hl2]; exact fE hnn (by omega)
     have hrix := hr2 _ hix
     have hqa := bZ p.types (aB p) j (jH p.types.length R1 j)
     have hw1 := Az (nV p.types (aB p) j (iS p.types.length R1 j)) (iS p.types.length R2 ((aB p)[j]!.next[kk]!).toNat) (nT p.types (aB p) j (jH p.types.length R1 j)) (jH p.types.length R2 ((aB p)[j]!.next[kk]!).toNat) (by rw [bZ]; exact hpl) (by rw [dH]; exact htl)
      (by rw [bZ]; exact hr2 _ (by rw [hl2]; exact fE hnn (by omega))) (by rw [dH]; exact pM hl2 hnn) (fun v hv => by rw [dH] at hv;rw [bZ]; exact Bj w hS1.d hjn hv) (fun v hv => by rw [dH] at hv;rw [bZ,fR hl2 hnn hv]; exact hr2 _ (by rw [hl2]; exact fE hnn (by omega)))
     repeat' (first|(apply aF;first|((with_reducible apply DM (k := 146) (D := G5 (((aB p)[j]!.next[kk]!).toNat * (p.types.length + 1))) (h := hw1));(case ha => rfl);(case hl => exact .cons (.pur (PurV.pf)) (.cons (.agg (IF (R := R2) (M := (aB p).length) (by (repeat' (first|exact FamR.here|(apply FamR.cons;focus rfl)))) (fun k hk => xX (by omega)) hl2 hnn hr2)) .nil));(case hfr|hN => rfl))|(apply qY;rfl;rfl;(case hF => (repeat' (first|exact FamR.here|(apply FamR.cons;focus rfl))));omega;omega;omega;omega;rfl;rfl)|(with_reducible apply cP (d := 11))|(apply iK;rfl;rfl;(assumption);rfl;infer_instance;infer_instance;rfl))|refine aC ?_|(refine aJ ?_ ?_ <;> intro hc hq <;> try (exfalso;omega))|refine cC ?_|fail)
     ·refine fF ?_
      apply eG
      case k =>
       apply Le.fset (R := R2) (hk := hix)
       (repeat' (first|exact FamR.here|(apply FamR.cons;focus rfl)))
      rw [Et hix]
      repeat' (first|refine aC ?_|fail)
      refine dM (σ := Nat) (fun v => wR R2 (((aB p)[j]!.next[kk]!).toNat * (p.types.length + 1)) p.types.length (nV p.types (aB p) j (iS p.types.length R1 j)) (nT p.types (aB p) j (jH p.types.length R1 j)) v) [1,3,4,7,8,9,10] [0,2] (fun v => [(11,iv (v : Int))]) (fun v => []) (fun v => v ≤ p.types.length) (fun v => p.types.length - v) (0) (Nat.zero_le _) ?_
      intro v hv
      try dsimp only
      have hjl := eN R2 (((aB p)[j]!.next[kk]!).toNat * (p.types.length + 1)) p.types.length (nV p.types (aB p) j (iS p.types.length R1 j)) (nT p.types (aB p) j (jH p.types.length R1 j)) v
      have hal := dH p.types (aB p) j (iS p.types.length R1 j)
      by_cases hvn : v < p.types.length
      ·have hav := Bj w hS1.d hjn hvn
       have hjr : (wR R2 (((aB p)[j]!.next[kk]!).toNat * (p.types.length + 1)) p.types.length (nV p.types (aB p) j (iS p.types.length R1 j)) (nT p.types (aB p) j (jH p.types.length R1 j)) v)[((aB p)[j]!.next[kk]!).toNat * (p.types.length + 1) + v]!.length = (aB p).length := by
        rw [e8 _ _ _ _ _ _ _ (by omega),if_neg (by omega),if_neg (by omega)]; exact hr2 _ (by omega)
       repeat' (first|(apply aF;first|(apply qY;rfl;rfl;(case hF => (repeat' (first|exact FamR.here|(apply FamR.cons;focus rfl))));omega;omega;omega;omega;rfl;rfl)|(with_reducible apply cP (d := 84))|(apply mB;rfl;rfl;(assumption);rfl;infer_instance;infer_instance;rfl)|(apply iK;rfl;rfl;(assumption);rfl;infer_instance;infer_instance;rfl))|refine aC ?_|(refine aJ ?_ ?_ <;> intro hc hq <;> try (exfalso;omega))|refine cC ?_|fail)
       refine fF ?_
       apply eG
       case k =>
        apply Le.fset (R := wR R2 (((aB p)[j]!.next[kk]!).toNat * (p.types.length + 1)) p.types.length (nV p.types (aB p) j (iS p.types.length R1 j)) (nT p.types (aB p) j (jH p.types.length R1 j)) v) (hk := (by omega))
        (repeat' (first|exact FamR.here|(apply FamR.cons;focus rfl)))
       rw [EM hix hvn]
       repeat' (first|refine aC ?_|fail)
       (apply bC (v + 1);focus (refine Le.renF0 [(0,0),(2,2)] (R := ?qA2) (hF := ?qF2) (hz := ?qz2) (hm := ?qm2) (hn := ?qn2) (h1 := ?q12) (h2 := ?q22);(case qF2 => (repeat' (first|exact FamR.here|(apply FamR.cons;focus rfl))));(case qz2 => (simp only [eN]));(case qm2 => rfl);(case qn2 => decide);all_goals (repeat' (first|exact trivial|refine And.intro ⟨_,rfl,?_⟩ ?_|refine And.intro ⟨_,_,rfl,rfl,?_⟩ ?_|exact RnL.purI inferInstance|exact RnV.purI inferInstance|exact RnV.optr rfl|exact RnV.imm (oK (M := (aB p).length) (Nat.le_refl _) (by show aT + (wR _ _ _ _ _ _).length = _; rw [eN,hl2]))))))
       ·show v + 1 ≤ p.types.length;omega
       ·show p.types.length - (v + 1) < p.types.length - v;omega
      ·repeat' (first | refine aC ?_ | (refine aJ ?_ ?_ <;> intro hc hq <;> try (exfalso; omega))|fail)
       have hvN : v = p.types.length := by omega
       subst hvN
       have hw3 : Cz (nV p.types (aB p) j (iS p.types.length R1 j)) (iS p.types.length R2 ((aB p)[j]!.next[kk]!).toNat) (nT p.types (aB p) j (jH p.types.length R1 j)) (jH p.types.length R2 ((aB p)[j]!.next[kk]!).toNat) = false := by assumption
       (apply bC (kk + 1,_,true);focus (refine Le.renF0 [(0,0),(2,2)] (R := ?qA3) (hF := ?qF3) (hz := ?qz3) (hm := ?qm3) (hn := ?qn3) (h1 := ?q13) (h2 := ?q23);(case qF3 => (repeat' (first|exact FamR.here|(apply FamR.cons;focus rfl))));(case qz3 => (rfl));(case qm3 => rfl);(case qn3 => decide);all_goals (repeat' (first|exact trivial|refine And.intro ⟨_,rfl,?_⟩ ?_|refine And.intro ⟨_,_,rfl,rfl,?_⟩ ?_|exact RnL.purI inferInstance|exact RnV.purI inferInstance|exact RnV.optr rfl|exact RnV.imm (oK (M := (aB p).length) (Nat.le_refl _) (by show aT + (wR _ _ _ _ _ _).length = _; rw [eN,hl2]))))))
       ·exact ⟨(by show kk + 1 ≤ (aB p)[j]!.next.length;omega),hS2.hit w (DF j (kk + 1)) hS1.d hjn hkn hw3,fun h => (by cases h)⟩
       ·show (aB p)[j]!.next.length - (kk + 1) < (aB p)[j]!.next.length - kk;omega
     ·(apply bC (kk + 1, R2, c2); focus (refine Le.renF0 [(0, 0), (2, 2)] (R := ?qA4) (hF := ?qF4) (hz := ?qz4) (hm := ?qm4) (hn := ?qn4) (h1 := ?q14) (h2 := ?q24); (case qF4 => (repeat' (first | exact FamR.here | (apply FamR.cons; focus rfl)))); (case qz4 => (rfl)); (case qm4 => rfl); (case qn4 => decide); all_goals (repeat' (first | exact trivial | refine And.intro ⟨_, rfl, ?_⟩ ?_ | refine And.intro ⟨_, _, rfl, rfl, ?_⟩ ?_ | exact RnL.purI inferInstance | exact RnV.purI inferInstance | exact RnV.optr rfl | exact RnV.imm (oK (M := (aB p).length) (Nat.le_refl _) (by show aT + R2.length = _; rw [hl2]))))))
      ·refine ⟨(by show kk + 1 ≤ (aB p)[j]!.next.length;omega),hS2.skip (i := j) (k := kk) hc2 (by assumption) (fun i' k' _ _ hd => by unfold DF at hd ⊢; omega),hc2⟩
      ·show (aB p)[j]!.next.length - (kk + 1) < (aB p)[j]!.next.length - kk;omega
    ·repeat' (first | refine aC ?_ | (refine aJ ?_ ?_ <;> intro hc hq <;> try (exfalso; omega))|fail)
     (apply bC (j + 1,R2,c2);focus (refine Le.renF0 [(0,0)] (R := ?qA5) (hF := ?qF5) (hz := ?qz5) (hm := ?qm5) (hn := ?qn5) (h1 := ?q15) (h2 := ?q25);(case qF5 => (repeat' (first|exact FamR.here|(apply FamR.cons;focus rfl))));(case qz5 => (rfl));(case qm5 => rfl);(case qn5 => decide);all_goals (repeat' (first|exact trivial|refine And.intro ⟨_,rfl,?_⟩ ?_|refine And.intro ⟨_,_,rfl,rfl,?_⟩ ?_|exact RnL.purI inferInstance|exact RnV.purI inferInstance|exact RnV.optr rfl|exact RnV.imm (oK (M := (aB p).length) (Nat.le_refl _) (by show aT + R2.length = _; rw [hl2]))))))
     ·refine ⟨(by show j + 1 ≤ (aB p).length; omega), hS2.mono fun i' k' _ hk' hd => ?_⟩
      unfold DF at hd ⊢
      by_cases e : i' = j
      ·subst e;omega
      ·omega
     ·show (aB p).length - (j + 1) < (aB p).length - j;omega
   ·repeat' (first | refine aC ?_ | (refine aJ ?_ ?_ <;> intro hc hq <;> try (exfalso; omega))|fail)
    (apply bC (R1,c1);focus (refine Le.renF0 [(0,0)] (R := ?qA6) (hF := ?qF6) (hz := ?qz6) (hm := ?qm6) (hn := ?qn6) (h1 := ?q16) (h2 := ?q26);(case qF6 => (repeat' (first|exact FamR.here|(apply FamR.cons;focus rfl))));(case qz6 => (rfl));(case qm6 => rfl);(case qn6 => decide);all_goals (repeat' (first|exact trivial|refine And.intro ⟨_,rfl,?_⟩ ?_|refine And.intro ⟨_,_,rfl,rfl,?_⟩ ?_|exact RnL.purI inferInstance|exact RnV.purI inferInstance|exact RnV.optr rfl|exact RnV.imm (oK (M := (aB p).length) (Nat.le_refl _) (by show aT + R1.length = _; rw [hl1]))))))
    ·exact (hS1.fin (by omega)).1
    ·exact (hS1.fin (by omega)).2
instance (s : List (List Bool) × List Bool) : Pur (KK s):=⟨by show ((sl fQ s.1).pur && ((sl cB s.2).pur && true)) = true;rw [a8,a8]; rfl⟩
def Jr (ts : List Int) (pts : List Pnt) (Aa : List Nat) (i k : Nat) : List Iss := ((List.range k).filter (CH ts pts Aa i)).map (fun (v : Nat) => ⟨i,1,v⟩)
def JK (pts : List Pnt) (cf : List Bool) (i k : Nat) : List Iss := ((List.range k).filter (fun (l : Nat) => cf[l]!)).map (fun (l : Nat) => ⟨i,Gx pts l,l⟩)
theorem H7 {ts:List Int}{pts:List Pnt}{Aa:List Nat}{i k:Nat}(h:CH ts pts Aa i k = true):Jr ts pts Aa i (k + 1) = Jr ts pts Aa i k ++ [⟨i,1,k⟩]:=by
 unfold Jr;rw [gO,if_pos h,List.map_append]; rfl
theorem xA {ts:List Int}{pts:List Pnt}{Aa:List Nat}{i k:Nat}(h:CH ts pts Aa i k = false):Jr ts pts Aa i (k + 1) = Jr ts pts Aa i k:=by
 unfold Jr;rw [gO,if_neg (by rw [h]; decide),List.append_nil]
theorem Cc {pts:List Pnt}{cf:List Bool}{i k:Nat}(h:cf[k]! = true):JK pts cf i (k + 1) = JK pts cf i k ++ [⟨i,Gx pts k,k⟩]:=by
 unfold JK;rw [gO,if_pos h,List.map_append]; rfl
theorem EH {pts:List Pnt}{cf:List Bool}{i k:Nat}(h:cf[k]! = false):JK pts cf i (k + 1) = JK pts cf i k:=by
 unfold JK;rw [gO,if_neg (by rw [h]; decide),List.append_nil]
theorem CC (p:Prg) (f:Flows p.types (aB p)) (hs:aM p.body ≤ 1048576) (w:WG p.types (aB p)) (hr:Rch (aB p)):PC Tryz.prog 135 [cA p,sl fQ (c9 p.types.length (aB p).length f.Al)] (fun r => r = sl fM f.iss):=by
 have hpl := w.pl
 have hp0 := w.p0
 have htl := w.tl
 have hfa := oY p true f.Aa hs w hr (by unfold pY;exact f.ga)
 have hfm := oY p false f.Am hs w hr (by unfold pY;exact f.gm)
 have hfl := wY p f.Af f.Ap hs w f.gf f.gp
 have hra := fI p.types.length (aB p).length f.Aa
 have hrm := fI p.types.length (aB p).length f.Am
 have hrl := fI p.types.length (aB p).length f.Al
 have hfll : ((List.range (aB p).length).map (gE p.types.length (aB p).length f.Af f.Ap)).length = (aB p).length := by simp
 refine aD Tryz.func135 Tryz.ntmps135 ?_
 repeat' (first|(apply aF;first|(apply aA (k := 27);rfl;exact dJ p hs;exact Pur.pf;rfl)|(apply aA (k := 53) (d := 20);rfl;exact hfa;exact Pur.pf;rfl)|(apply aA (k := 53) (d := 22);rfl;exact hfm;exact Pur.pf;rfl)|(apply aA (k := 106);rfl;exact hfl;exact Pur.pf;rfl))|refine aC ?_|fail)
 refine aH (σ := Nat × List Iss × Nat) [1,2,6,7,8,9] [0] (fun s => [(10,iv (s.1 : Int)),(5,.own 1 0 s.2.2 3)]) (fun s => [(1,some (flat fM s.2.1))]) (fun s => s.1 ≤ (aB p).length ∧ s.2.1 = nZ p.types (aB p) f.Aa f.Am f.Al f.Af f.Ap s.1 ∧ s.2.2 = s.2.1.length ∧ s.2.2 ≤ 67 * s.1) (fun s => (aB p).length - s.1) (0,[],0) ⟨Nat.zero_le _,rfl,rfl,Nat.le_refl _⟩ ?_
 rintro ⟨i,L,m⟩ ⟨hi,hL,hm,hmb⟩
 dsimp only at hi hL hm hmb
 try dsimp only
 by_cases hin : i < (aB p).length
 ·repeat' (first | refine aC ?_ | (refine aJ ?_ ?_ <;> intro hc hq <;> try (exfalso; omega))|fail)
  refine aH (σ := Nat × List Iss × Nat) [1,2,6,7,8,9,10] [0] (fun s => [(11,iv (s.1 : Int)),(5,.own 1 0 s.2.2 3)]) (fun s => [(1,some (flat fM s.2.1))]) (fun s => s.1 ≤ p.types.length ∧ s.2.1 = L ++ Jr p.types (aB p) f.Aa i s.1 ∧ s.2.2 = s.2.1.length ∧ s.2.2 ≤ 67 * i + s.1) (fun s => p.types.length - s.1) (0,L,m) ⟨Nat.zero_le _,(List.append_nil L).symm,hm,hmb⟩ ?_
  rintro ⟨v,L2,m2⟩ ⟨hv,hL2,hm2,hmb2⟩
  dsimp only at hv hL2 hm2 hmb2
  try dsimp only
  by_cases hvn : v < p.types.length
  ·have hga := lH p.types.length (aB p).length f.Aa i v hin hvn
   have hgl : (c9 p.types.length (aB p).length f.Aa)[i]!.length = p.types.length := by rw [fO _ _ _ _ hin]; simp
   repeat' (first|(apply aF;(apply aA (k := 139);rfl;(apply jV <;> (omega));exact Pur.pf;rfl))|refine aC ?_|(refine aJ ?_ ?_ <;> intro hc hq <;> try (exfalso;omega))|(refine b9 ?_ ?_ <;> intro hg hq <;> try (exfalso;omega))|refine cC ?_|fail)
   ·(refine bC (v + 1, L2 ++ [⟨i, 1, v⟩], m2 + 1) (Le.renA [(0, 0), (1, 3)]) ?_ ?_)
    ·have hu : CH p.types (aB p) f.Aa i v = true := by
      unfold CH;rw [← hga,decide_eq_false (by assumption),(by assumption : (c9 p.types.length (aB p).length f.Aa)[i]![v]! = false)]; rfl
     exact ⟨(by show v + 1 ≤ p.types.length;omega),(by show L2 ++ [⟨i,1,v⟩] = _; rw [hL2,List.append_assoc,← H7 hu]),(by show m2 + 1 = (L2 ++ [_]).length;rw [List.length_append,List.length_singleton,hm2]),(by show m2 + 1 ≤ 67 * i + (v + 1);omega)⟩
    ·show p.types.length - (v + 1) < p.types.length - v;omega
   ·(refine bC (v + 1, L2, m2) (Le.renA [(0, 0), (1, 1)]) ?_ ?_)
    ·have hu : CH p.types (aB p) f.Aa i v = false := by
      unfold CH;rw [← hga,(by assumption : (c9 p.types.length (aB p).length f.Aa)[i]![v]! = true)]; simp
     exact ⟨(by show v + 1 ≤ p.types.length;omega),(by show L2 = _; rw [xA hu]; exact hL2),hm2,(by show m2 ≤ 67 * i + (v + 1);omega)⟩
    ·show p.types.length - (v + 1) < p.types.length - v;omega
   ·(refine bC (v + 1, L2, m2) (Le.renA [(0, 0), (1, 1)]) ?_ ?_)
    ·have hu : CH p.types (aB p) f.Aa i v = false := by
      unfold CH;rw [decide_eq_true (by assumption)]; rfl
     exact ⟨(by show v + 1 ≤ p.types.length;omega),(by show L2 = _; rw [xA hu]; exact hL2),hm2,(by show m2 ≤ 67 * i + (v + 1);omega)⟩
    ·show p.types.length - (v + 1) < p.types.length - v;omega
  ·have hvN : v = p.types.length := by omega
   have hset := w.set i hin
   have hy := w.y i hin
   have hfi : ((List.range (aB p).length).map (gE p.types.length (aB p).length f.Af f.Ap))[i]! = gE p.types.length (aB p).length f.Af f.Ap i := a6 _ _ _ hin
   have hgm : (c9 p.types.length (aB p).length f.Am)[i]!.length = p.types.length := by rw [fO _ _ _ _ hin]; simp
   have hgl : (c9 p.types.length (aB p).length f.Al)[i]!.length = p.types.length := by rw [fO _ _ _ _ hin]; simp
   have hf2 : (gE p.types.length (aB p).length f.Af f.Ap i).2.length = (aB p).length := by simp [gE]
   have hf1 : (gE p.types.length (aB p).length f.Af f.Ap i).1.length = p.types.length := by simp [gE]
   have hf3 : ∀ v, v < p.types.length → (gE p.types.length (aB p).length f.Af f.Ap i).1[v]!.length = (gE p.types.length (aB p).length f.Af f.Ap i).2.length := fun v hv => by
    rw [hf2]; unfold gE;dsimp only;rw [a6 _ _ _ hv]; simp
   have hacc := tR p.types (aB p)[i]! (c9 p.types.length (aB p).length f.Am)[i]! htl hgm hset.1 hy
   have hlv := E3 p.types (aB p)[i]! ((List.range (aB p).length).map (gE p.types.length (aB p).length f.Af f.Ap))[i]!.1 ((List.range (aB p).length).map (gE p.types.length (aB p).length f.Af f.Ap))[i]!.2 (c9 p.types.length (aB p).length f.Al)[i]! htl (by rw [hfi,hf2]; exact hpl) hgl (by rw [hfi]; exact hf1) (by rw [hfi]; exact hf3)
   have hlvl : (DA p.types (aB p)[i]! ((List.range (aB p).length).map (gE p.types.length (aB p).length f.Af f.Ap))[i]!.1 (c9 p.types.length (aB p).length f.Al)[i]! ((List.range (aB p).length).map (gE p.types.length (aB p).length f.Af f.Ap))[i]!.2.length).length = (aB p).length := by unfold DA;rw [List.length_map,List.length_range,hfi,hf2]
   have hcn := r9 (aB p) (iB p.types (aB p)[i]! (c9 p.types.length (aB p).length f.Am)[i]![(aQ (aB p)[i]!).toNat]!) ((List.range (aB p).length).map (gE p.types.length (aB p).length f.Af f.Ap))[i]!.1 ((List.range (aB p).length).map (gE p.types.length (aB p).length f.Af f.Ap))[i]!.2 (DA p.types (aB p)[i]! ((List.range (aB p).length).map (gE p.types.length (aB p).length f.Af f.Ap))[i]!.1 (c9 p.types.length (aB p).length f.Al)[i]! ((List.range (aB p).length).map (gE p.types.length (aB p).length f.Af f.Ap))[i]!.2.length) hpl (by have := yA p.types (aB p)[i]! (c9 p.types.length (aB p).length f.Am)[i]![(aQ (aB p)[i]!).toNat]!; omega) (by rw [hfi]; exact hf2) hlvl
   have hcf : Kc (aB p) (iB p.types (aB p)[i]! (c9 p.types.length (aB p).length f.Am)[i]![(aQ (aB p)[i]!).toNat]!) ((List.range (aB p).length).map (gE p.types.length (aB p).length f.Af f.Ap))[i]!.2 (DA p.types (aB p)[i]! ((List.range (aB p).length).map (gE p.types.length (aB p).length f.Af f.Ap))[i]!.1 (c9 p.types.length (aB p).length f.Al)[i]! ((List.range (aB p).length).map (gE p.types.length (aB p).length f.Af f.Ap))[i]!.2.length) = Gz p.types (aB p) f.Am f.Al f.Af f.Ap i := by
    rw [hfi,hf2]; rfl
   have hcl : (Gz p.types (aB p) f.Am f.Al f.Af f.Ap i).length = (aB p).length := by unfold Gz;rw [uD]
   repeat' (first|(apply aF;first|(apply aA (k := 171);rfl;exact hacc;exact Pur.pf;rfl)|(apply aA (k := 173);rfl;exact hlv;exact Pur.pf;rfl)|(apply aA (k := 172);rfl;exact hcn;exact Pur.pf;rfl)|(with_reducible apply cP (d := 14)))|refine aC ?_|(refine aJ ?_ ?_ <;> intro hc hq <;> try (exfalso;omega))|refine cC ?_|fail)
   refine fF ?_
   rw [hcf]
   repeat' (first|refine aC ?_|fail)
   refine aH (σ := Nat × List Iss × Nat) [1,2,6,7,8,9,10,13] [0] (fun s => [(14,iv (s.1 : Int)),(5,.own 1 0 s.2.2 3)]) (fun s => [(1,some (flat fM s.2.1))]) (fun s => s.1 ≤ (aB p).length ∧ s.2.1 = L2 ++ JK (aB p) (Gz p.types (aB p) f.Am f.Al f.Af f.Ap i) i s.1 ∧ s.2.2 = s.2.1.length ∧ s.2.2 ≤ 67 * i + 6 + s.1) (fun s => (aB p).length - s.1) (0,L2,m2) ⟨Nat.zero_le _,(List.append_nil L2).symm,hm2,by show m2 ≤ 67 * i + 6 + 0;omega⟩ ?_
   rintro ⟨l,L3,m3⟩ ⟨hl,hL3,hm3,hmb3⟩
   dsimp only at hl hL3 hm3 hmb3
   try dsimp only
   by_cases hln : l < (aB p).length
   ·repeat' (first | refine aC ?_ | (refine aJ ?_ ?_ <;> intro hc hq <;> try (exfalso; omega))|fail)
    ·(refine bC (l + 1, L3, m3) (Le.renA [(0, 0), (1, 1)]) ?_ ?_)
     ·exact ⟨(by show l + 1 ≤ (aB p).length;omega),(by show L3 = _; rw [EH (by assumption)]; exact hL3),hm3,(by show m3 ≤ 67 * i + 6 + (l + 1);omega)⟩
     ·show (aB p).length - (l + 1) < (aB p).length - l;omega
    ·(refine bC (l + 1, L3 ++ [⟨i, 3, l⟩], m3 + 1) (Le.renA [(0, 0), (1, 3)]) ?_ ?_)
     ·have hk : Gx (aB p) l = 3 := by unfold Gx; rw [if_pos (by assumption)]
      exact ⟨(by show l + 1 ≤ (aB p).length;omega),(by show L3 ++ [⟨i,3,l⟩] = _; rw [hL3,List.append_assoc,← hk,← Cc (by assumption)]),(by show m3 + 1 = (L3 ++ [_]).length;rw [List.length_append,List.length_singleton,hm3]),(by show m3 + 1 ≤ 67 * i + 6 + (l + 1);omega)⟩
     ·show (aB p).length - (l + 1) < (aB p).length - l;omega
    ·(refine bC (l + 1, L3 ++ [⟨i, 2, l⟩], m3 + 1) (Le.renA [(0, 0), (1, 3)]) ?_ ?_)
     ·have hk : Gx (aB p) l = 2 := by unfold Gx; rw [if_neg (by assumption)]
      exact ⟨(by show l + 1 ≤ (aB p).length;omega),(by show L3 ++ [⟨i,2,l⟩] = _; rw [hL3,List.append_assoc,← hk,← Cc (by assumption)]),(by show m3 + 1 = (L3 ++ [_]).length;rw [List.length_append,List.length_singleton,hm3]),(by show m3 + 1 ≤ 67 * i + 6 + (l + 1);omega)⟩
     ·show (aB p).length - (l + 1) < (aB p).length - l;omega
   ·repeat' (first | refine aC ?_ | (refine aJ ?_ ?_ <;> intro hc hq <;> try (exfalso; omega))|fail)
    (refine bC (i + 1,L3,m3) (Le.renA [(0,0),(1,1)]) ?_ ?_)
    ·refine ⟨(by show i + 1 ≤ (aB p).length; omega), ?_, hm3, (by show m3 ≤ 67 * (i + 1); omega)⟩
     show L3 = nZ p.types (aB p) f.Aa f.Am f.Al f.Af f.Ap (i + 1)
     rw [lD,← Aq w f hin,hL3,hL2,hL,hvN,show l = (aB p).length by omega,List.append_assoc]
     rfl
    ·show (aB p).length - (i + 1) < (aB p).length - i;omega
 ·repeat' (first | refine aC ?_ | (refine aJ ?_ ?_ <;> intro hc hq <;> try (exfalso; omega))|fail)
  have hiN : i = (aB p).length := by omega
  refine bF (Le.frzD (d := 4) (i := 1) rfl rfl) ?_
  refine aI rfl ⟨?_,(by (exact a8 _ _))⟩
  simp only [aN]
  rw [hm,hL,hiN]; rfl
theorem Ga (p:Prg) (f:Flows p.types (aB p)) (hl:p.types.length ≤ 1048576) (hs:aM p.body ≤ 1048576):PC Tryz.prog 88 [cA p] (fun r => r = sl fM (JB p f)):=by
 unfold JB
 cases hv : bR p
 ·have hval := nN p hl (by omega)
  rw [hv] at hval
  refine aD Tryz.func88 Tryz.ntmps88 ?_
  repeat' (first|(apply aF;first|(apply aA (k := 40);rfl;exact hval;exact Pur.pf;rfl)|(apply aL (t := _);rfl;rfl;rfl;(rfl);rfl;rfl))|refine aC ?_|fail)
  exact aI rfl ⟨rfl,rfl⟩
 ·have w := WG.of_valid hv
  have hr := Rch.of p
  have hval := nN p hl (by omega)
  rw [hv] at hval
  have hlv := Gm p f.Al hs w f.gl
  have hck := CC p f hs w hr
  refine aD Tryz.func88 Tryz.ntmps88 ?_
  repeat' (first|(apply aF;first|(apply aA (k := 40);rfl;exact hval;exact Pur.pf;rfl)|(apply aA (k := 136);rfl;exact hlv;exact Pur.pf;rfl)|(apply aA (k := 135);rfl;exact hck;exact Pur.pf;rfl))|refine aC ?_|refine cC ?_|fail)
  exact aI rfl ⟨rfl,(by (exact a8 _ _))⟩
def IK (bs : List UInt8) (q : Int) : Int := ((bs[(q % (bs.length : Int)).toNat]!).toNat : Int) * 131 + ((bs[((q * 7 + 3) % (bs.length : Int)).toNat]!).toNat : Int) * 1117 + q * 29 + q / (bs.length : Int) * 53
def xZ (bs : List UInt8) (p : Nat) (n : Int) : Int :=
 if n < 1 then 0 else if (bs.length : Int) = 0 then 0 else
 if (p : Int) + 1 - 1 < (bs.length : Int) then ((bs[((p : Int) + 1 - 1).toNat]!).toNat : Int) % n
 else (((IK bs ((p : Int) + 1 - 1)).toNat ^^^ (IK bs ((p : Int) + 1 - 1) / 64).toNat : Nat) : Int) % n
theorem DV (bs:List UInt8) (p:Nat) (n:Int):0 ≤ xZ bs p n ∧ (xZ bs p n < n ∨ n < 1 ∧ xZ bs p n = 0):=by
 unfold xZ
 split
 ·omega
 ·split
  ·omega
  ·split
   ·exact ⟨Int.emod_nonneg _ (by omega),.inl (Int.emod_lt_of_pos _ (by omega))⟩
   ·exact ⟨Int.emod_nonneg _ (by omega),.inl (Int.emod_lt_of_pos _ (by omega))⟩
def st (op x y n : Int) : AL.Stmt := .mk op x y n [] []
theorem k3 (bs:List UInt8) (p:Nat):(xZ bs p 3).toNat ≤ 2 := by have := DV bs p 3;omega
theorem C0 (p:Prg) (hv:bR p = false) (hl:p.types.length ≤ 1048576) (hs:aM p.body ≤ 1048576):PC Tryz.prog 88 [cA p] (fun r => r = sl fM []):=by
 have hval := nN p hl (by omega)
 rw [hv] at hval
 refine aD Tryz.func88 Tryz.ntmps88 ?_
 repeat' (first|(apply aF;first|(apply aA (k := 40);rfl;exact hval;exact Pur.pf;rfl)|(apply aL (t := _);rfl;rfl;rfl;(rfl);rfl;rfl))|refine aC ?_|fail)
 exact aI rfl ⟨rfl,rfl⟩
instance : Eq3 Tryz.prog 47 where
 g := Tryz.eqGuardType47
 e := fun a b c a' b' c' w => by
  have u3 := Tryz.underlying3
  have a3 := Tryz.isAgg3
  have z3 := Tryz.sizeOf3
  have hS : Tryz.prog.underlying 47 = some (.struct (Tryz.prog.fieldsOf 47)) := by kernel_rfl
  have hp : Tryz.prog.stoodInHeld 47 = false := by kernel_rfl
  rw [show (10000 : Nat) = 9999 + 1 from rfl,run_equalIn_agg w 9999 47 _ _ hS hp]
  simp only [Program.fieldsOf,Tryz.underlying47]
  go_simp
  by_cases h1 : a = a' <;> by_cases h2 : b = b' <;> by_cases h3 : c = c' <;> simp [h1,h2,h3]
theorem zA (p:Prg) (hl:p.types.length ≤ 1048576) (hs:aM p.body ≤ 1048576):PC Tryz.prog 105 [cA p] (fun r => r = sl bK (if bR p = true then aB p else [])):=by
 have hval := nN p hl (by omega)
 have h2 := dJ p hs
 refine aD Tryz.func105 Tryz.ntmps105 ?_
 repeat' (first|(apply aF;first|(apply aA (k := 40);rfl;exact hval;exact Pur.pf;rfl)|(apply aA (k := 27);rfl;exact h2;exact Pur.pf;rfl)|(apply aL (t := _);rfl;rfl;rfl;(rfl);rfl;rfl))|refine aC ?_|(refine aJ ?_ ?_ <;> intro hc hq <;> try (exfalso;omega))|fail)
 ·refine aI rfl ⟨?_, (by (rfl))⟩
  rw [if_neg (by simp [hq])]; rfl
 ·refine aI rfl ⟨?_, (by (exact a8 _ _))⟩
  rw [if_pos hq]; rfl
theorem Fo {xs:List Int}{m:Nat}{x0:Operand}{i0:Nat}(ha0:ev (lk tsl) x0 = some (.own i0 0 m 1)) (hH0:aO hsl i0 = some (flat cI xs)) (hmc:MC Tryz.prog 118 [.own 0 0 m 1] [(0,some (flat cI xs))] 1 (fun _:Unit => True) (fun _ => .tup []) (fun _ => [(0,some (flat cI xs.reverse))])) (hM:Nat.ble (nidl + 0) aT = true) (hN:Nat.blt d N = true){md':Md}[hmd:MdA md (jU [x0] ++ [.inr i0]) (List.map Sum.inr (List.map Prod.fst ([(i0,some (flat cI xs.reverse))]:List (Nat × Option (List AV)))) ++ [.inl d]) md'] (kk:RW Tryz.prog N all Q md' rest ⟨(d,.tup []) :: tsl,nK hsl [(i0,some (flat cI xs.reverse))],nidl + 0,z0⟩):RW Tryz.prog N all Q md (⟨some d,.call ⟨.value (.func 118),#[x0],tys⟩,ty,pos,af,none⟩ :: rest) ⟨tsl,hsl,nidl,z0⟩:=by
 exact bY (l := [x0]) [i0] 1 [(i0,some (flat cI xs.reverse))] hmc (avs := [.own i0 0 m 1]) (by simp only [evL,ha0]) rfl hM hN (md' := md') (hmd := hmd) kk
theorem IN (xs:List Int) (m:Nat) (hm:m = xs.length) (hl:xs.length ≤ 1048576):MC Tryz.prog 118 [.own 0 0 m 1] [(0,some (flat cI xs))] 1 (fun _:Unit => True) (fun _ => .tup []) (fun _ => [(0,some (flat cI xs.reverse))]):=by
 subst hm
 refine cS Tryz.func118 Tryz.ntmps118 ?_
 repeat' (first|refine aC ?_|fail)
 refine aH (σ := Nat × List Int × Int) [0] [] (fun k => [(2,iv (k.1 : Int)),(3,iv k.2.2)]) (fun k => [(0,some (flat cI k.2.1))]) (fun k => 2 * k.1 ≤ xs.length ∧ k.2.1.length = xs.length ∧ (∀ l,l < xs.length → k.2.1[l]! = if l < k.1 ∨ xs.length ≤ l + k.1 then xs[xs.length - 1 - l]! else xs[l]!) ∧ k.2.2 = (xs.length : Int) - 1 - (k.1 : Int)) (fun k => xs.length - k.1) (0,xs,(xs.length : Int) - 1) ⟨by omega,rfl,fun l hl => by rw [if_neg (by omega)],by simp⟩ ?_
 rintro ⟨k,u,z⟩ ⟨hk,hul,hu,hz⟩
 dsimp only at hk hul hu hz
 try dsimp only
 repeat' (first|refine aC ?_|(refine aJ ?_ ?_ <;> intro hc hq <;> try (exfalso;omega))|refine cC ?_|fail)
 ·(refine bC (k + 1, _, _) (Le.renA []) ?_ ?_)
  ·dsimp only
   refine ⟨by omega,by rw [List.length_set,List.length_set]; exact hul,fun l hl => ?_,by omega⟩
   have h1 := hu l hl
   have h2 := hu k (by omega)
   have h3 := hu z.toNat (by omega)
   have e1 : xs.length - 1 - k = z.toNat := by omega
   have e2 : xs.length - 1 - z.toNat = k := by omega
   rw [if_neg (by omega)] at h2 h3
   rw [aP,aP,List.length_set]
   by_cases q1 : z.toNat = l
   ·rw [if_pos ⟨q1,by omega⟩,if_pos (by omega),h2,← q1,e2]
   ·rw [if_neg (by omega)]
    by_cases q2 : k = l
    ·rw [if_pos ⟨q2,by omega⟩,if_pos (by omega),h3,← q2,e1]
    ·rw [if_neg (by omega), h1]
     by_cases q3 : l < k ∨ xs.length ≤ l + k
     ·rw [if_pos q3,if_pos (by omega)]
     ·rw [if_neg q3,if_neg (by omega)]
  ·dsimp only;omega
 ·refine tP (l := []) rfl ?_
  refine eI () trivial rfl ⟨sE ?_,trivial⟩
  have e : u = xs.reverse := aY (by rw [List.length_reverse, hul]) fun l hl => by
   rw [hul] at hl
   rw [hu l hl,aW xs.reverse l (by simpa using hl),List.getElem_reverse,← aW]
   split
   ·rfl
   ·congr 1;omega
  rw [e]
theorem B7 {m:Nat}{x0 x1:Operand}(ha0:ev (lk tsl) x0 = some (.v (.slice none 0 0))) (ha1:ev (lk tsl) x1 = some (iv (m:Int))) (hmc:MC Tryz.prog 119 [.v (.slice none 0 0),iv (m:Int)] [] 0 (fun _:Unit => True) (fun _ => .own 0 0 0 1) (fun _ => [(0,some (flat cI ([]:List Int)))])) (hM:Nat.ble (nidl + 1) aT = true) (hN:Nat.blt d N = true){md':Md}[hmd:MdA md (jU [x0,x1] ++ []) (List.map Sum.inr (List.map Prod.fst ([(nidl,some (flat cI ([]:List Int)))]:List (Nat × Option (List AV)))) ++ [.inl d]) md'] (kk:RW Tryz.prog N all Q md' rest ⟨(d,.own nidl 0 0 1) :: tsl,nK hsl [(nidl,some (flat cI ([]:List Int)))],nidl + 1,z0⟩):RW Tryz.prog N all Q md (⟨some d,.call ⟨.value (.func 119),#[x0,x1],tys⟩,ty,pos,af,none⟩ :: rest) ⟨tsl,hsl,nidl,z0⟩:=by
 exact bY (l := [x0,x1]) [] 1 [(nidl,some (flat cI ([] : List Int)))] hmc (avs := [.v (.slice none 0 0),iv (m : Int)]) (by simp only [evL,ha0,ha1]) rfl hM hN (md' := md') (hmd := hmd) kk
theorem DP (m:Nat) (hm:m ≤ 1048576):MC Tryz.prog 119 [.v (.slice none 0 0),iv (m:Int)] [] 0 (fun _:Unit => True) (fun _ => .own 0 0 0 1) (fun _ => [(0,some (flat cI ([]:List Int)))]):=by
 refine cS Tryz.func119 Tryz.ntmps119 ?_
 repeat' (first|(apply aF;first|(apply Da;rfl;rfl)|(apply Fx (m := m) (k' := .i64);kernel_rfl;rfl;rfl;omega;rfl;rfl;omega;omega;omega;rfl;rfl)|(apply rR (h := 0);rfl;rfl;(rfl);omega;rfl)|(apply xC;rfl;rfl;rfl))|refine aC ?_|(refine aJ ?_ ?_ <;> intro hc hq <;> try (exfalso;omega))|fail)
 ·
  refine bF (Le.cut (i := 0) 0 rfl) ?_
  refine aI rfl ?_
  refine eI () trivial ?_ ⟨sE ?_,trivial⟩
  all_goals first|rfl|exact congrArg some (List.take_zero)
 ·refine bF (Le.nilOwn (d := 4) 1 ?_ ?_) ?_
  ·rfl
  ·decide
  refine aI rfl ?_
  refine eI () trivial ?_ ⟨sE ?_,trivial⟩
  all_goals rfl
theorem Fp (Ls:List (List Int)) (hn:Ls.length ≤ 1000) (hl:Ls.flatten.length ≤ 1048576):PC Tryz.prog 72 [sl IE Ls] (fun r => r = sl cI Ls.flatten):=by
 have hpre : ∀ k, (Ls.take k).flatten.length ≤ 1048576 := fun k => by
  have : Ls.flatten = (Ls.take k).flatten ++ (Ls.drop k).flatten := by rw [← List.flatten_append,List.take_append_drop]
  rw [this,List.length_append] at hl;omega
 have hst : ∀ k,k < Ls.length → (Ls.take (k + 1)).flatten = (Ls.take k).flatten ++ Ls[k]! := fun k hk => by rw [dK _ _ hk]; simp
 refine aD Tryz.func72 Tryz.ntmps72 ?_
 repeat' (first|refine aC ?_|fail)
 refine aH (σ := Nat × Int) [0,9,10] [] (fun k => [(11,iv (k.1 : Int)),(3,iv k.2)]) (fun k => []) (fun k => k.1 ≤ Ls.length ∧ k.2 = ((Ls.take k.1).flatten.length : Int)) (fun k => Ls.length - k.1) (0,0) ⟨by omega,rfl⟩ ?_
 rintro ⟨k,z⟩ ⟨hk,hz⟩
 dsimp only at hk hz
 try dsimp only
 have hz2 := hpre k
 by_cases hkn : k < Ls.length
 ·have h1 := hst k hkn
  have h2 := hpre (k + 1)
  rw [h1,List.length_append] at h2
  repeat' (first|refine aC ?_|(refine aJ ?_ ?_ <;> intro hc hq <;> try (exfalso;omega))|fail)
  (refine bC (k + 1,_) (Le.renA []) ?_ ?_)
  ·exact ⟨by dsimp only;omega,by dsimp only;rw [h1,List.length_append]; omega⟩
  ·dsimp only;omega
 ·obtain ⟨z', rfl⟩ : ∃ z' : Nat, z = (z' : Int) := ⟨_, hz⟩
  repeat' (first|(apply aF;(apply B7;rfl;rfl;(apply DP <;> (omega));rfl;rfl))|refine aC ?_|(refine aJ ?_ ?_ <;> intro hc hq <;> try (exfalso;omega))|fail)
  refine aH (σ := Nat × List Int × Nat) [25,26] [] (fun k => [(27,iv (k.1 : Int)),(6,.own 0 0 k.2.2 1)]) (fun k => [(0,some (flat cI k.2.1))]) (fun k => k.1 ≤ Ls.length ∧ k.2.1 = (Ls.take k.1).flatten ∧ k.2.2 = k.2.1.length) (fun k => Ls.length - k.1) (0,[],0) ⟨by omega,rfl,rfl⟩ ?_
  rintro ⟨k,u,m⟩ ⟨hk,hu,hm⟩
  dsimp only at hk hu hm
  try dsimp only
  have hu2 := hpre k
  rw [← hu] at hu2
  by_cases hkn : k < Ls.length
  ·have h1 := hst k hkn
   have h2 := hpre (k + 1)
   rw [h1,List.length_append,← hu] at h2
   repeat' (first|(apply aF;(apply cD;rfl;rfl;rfl;rfl;rfl;(rw [aK]; omega);(exact oN (by (rfl)));omega;omega;(exact kP (by (assumption)));rfl;rfl))|refine aC ?_|(refine aJ ?_ ?_ <;> intro hc hq <;> try (exfalso;omega))|fail)
   (refine bC (k + 1,_,_) (Le.renA [(0,1)]) ?_ ?_)
   ·exact ⟨by dsimp only;omega,by dsimp only;rw [h1,hu],by dsimp only;rw [List.length_append]; omega⟩
   ·dsimp only;omega
  ·repeat' (first | refine aC ?_ | (refine aJ ?_ ?_ <;> intro hc hq <;> try (exfalso; omega))|fail)
   refine bF (Le.frzD (d := 2) (i := 0) rfl rfl) ?_
   refine aI rfl ⟨?_,(by (exact a8 _ _))⟩
   have e : u = Ls.flatten := by rw [hu,show k = Ls.length by omega,List.take_length]
   rw [← e]
   simp only [aN,sl,hm]
theorem Ht (A l:Nat):decide (((A >>> l &&& 1:Nat):Int) = 1) = A.testBit l:=by
 rw [Nat.testBit,Nat.and_comm]
 by_cases h : 1 &&& A >>> l = 1
 ·rw [h]; rfl
 ·have := Nat.and_le_left (n := 1) (m := A >>> l)
  have h0 : 1 &&& A >>> l = 0 := by omega
  rw [h0]; rfl
theorem Ka {Af:List Nat}{n i v:Nat}(hA:Af.length = n * 6) (hi:i < n) (hv:v < 6):(List.drop (v * 1) (flat cW (Af.drop (i * 6))))[0]? = some (.v (.int .u64 ((cG Af i)[v]!:Nat))):=by
 rw [eQ hA hi hv,Nat.mul_one]
 have e : flat cW (Af.drop (i * 6)) = (Af.drop (i * 6)).map (fun (x : Nat) => AV.v (.int .u64 (x : Int))) := by
  generalize Af.drop (i * 6) = l
  induction l with
  | nil => rfl
  | cons a l ih => rw [List.map_cons,← ih]; rfl
 rw [e,List.getElem?_drop,List.getElem?_map,List.getElem?_drop,Nat.add_zero,List.getElem?_eq_getElem (by omega),aW Af _ (by omega)]; rfl
theorem yP (v:Int) (n:Nat) (Af:List Nat) (i loan:Int) (hA:Af.length = n * 6) (hv:0 ≤ v ∧ v < 6) (hi:0 ≤ i ∧ i < n) (hl:0 ≤ loan ∧ loan < 62) (hs:∀ z:Nat,Sm (cG Af i.toNat)[z]!) :
  PC Tryz.prog 117 [iv v,.iptr [.imm n (flat cW Af)],.iptr [iv i],.iptr [iv loan]] (fun r => r = bv ((cG Af i.toNat)[v.toNat]!.testBit loan.toNat)) := by
 have hsv := hs v.toNat
 refine aD Tryz.func117 Tryz.ntmps117 ?_
 repeat' (first|(apply aF;(apply yG;rfl;rfl;exact Ka hA (by omega) (by omega);rfl))|refine aC ?_|refine cC ?_|fail)
 refine aI rfl ⟨?_,rfl⟩
 exact congrArg bv (Ht _ _)
def KU (U : Int → Bool) (xs : List Int) : Int := match xs.findIdx? U with | some i => i | none => -1
def u1 (Af : List Nat) (i loan : Int) (v : Int) : Bool := (cG Af i.toNat)[v.toNat]!.testBit loan.toNat
theorem JX (xs:List Int) (n:Nat) (Af:List Nat) (i loan:Int) (hxl:xs.length ≤ 1000) (hx:∀ v ∈ xs,0 ≤ v ∧ v < 6) (hA:Af.length = n * 6) (hi:0 ≤ i ∧ i < n) (hl:0 ≤ loan ∧ loan < 62) (hs:∀ z:Nat,Sm (cG Af i.toNat)[z]!) :
  PC Tryz.prog 156 [sl cI xs,.clos (.func 117) [] [.iptr [.imm n (flat cW Af)],.iptr [iv i],.iptr [iv loan]]] (fun r => r = iv (KU (u1 Af i loan) xs)) := by
 refine aD Tryz.func156 Tryz.ntmps156 ?_
 repeat' (first|refine aC ?_|fail)
 refine aH (σ := Nat) [0,1,7] [] (fun k => [(8,iv (k : Int))]) (fun k => []) (fun k => k ≤ xs.length ∧ ∀ j,j < k → u1 Af i loan xs[j]! = false) (fun k => xs.length - k) (0) ⟨by omega,by omega⟩ ?_
 intro k ⟨hk,hall⟩
 by_cases hkn : k < xs.length
 ·have hv := hx _ (aZ xs k hkn)
  have hcl := yP xs[k]! n Af i loan hA hv hi hl hs
  have hu : (cG Af i.toNat)[(xs[k]!).toNat]!.testBit loan.toNat = u1 Af i loan xs[k]! := rfl
  rw [hu] at hcl
  cases hb : u1 Af i loan xs[k]!
  ·rw [hb] at hcl
   repeat' (first|(apply aF;(apply jA;rfl;rfl;infer_instance;rfl;(apply hcl);exact Pur.pf;rfl))|refine aC ?_|(refine aJ ?_ ?_ <;> intro hc hq <;> try (exfalso;omega))|fail)
   (refine bC (k + 1) (Le.renA []) ?_ ?_)
   ·refine ⟨by omega, fun j hj => ?_⟩
    by_cases e : j = k
    ·subst e;exact hb
    ·exact hall j (by omega)
   ·omega
  ·rw [hb] at hcl
   repeat' (first|(apply aF;(apply jA;rfl;rfl;infer_instance;rfl;(apply hcl);exact Pur.pf;rfl))|refine aC ?_|(refine aJ ?_ ?_ <;> intro hc hq <;> try (exfalso;omega))|fail)
   refine aI rfl ⟨?_,rfl⟩
   have : xs.findIdx? (u1 Af i loan) = some k := by
    rw [List.findIdx?_eq_some_iff_getElem]
    refine ⟨hkn,by rw [← aW xs k hkn]; exact hb,fun j hj => ?_⟩
    have := hall j hj;rw [aW xs j (by omega)] at this;rw [this]; decide
   simp only [KU,this]; rfl
 ·repeat' (first | refine aC ?_ | (refine aJ ?_ ?_ <;> intro hc hq <;> try (exfalso; omega))|fail)
  refine aI rfl ⟨?_,rfl⟩
  have : xs.findIdx? (u1 Af i loan) = none := by
   rw [List.findIdx?_eq_none_iff]
   intro x hx
   obtain ⟨j,hj,rfl⟩ := List.getElem_of_mem hx
   have := hall j (by omega);rw [aW xs j hj] at this;exact this
  simp only [KU,this]; rfl
theorem JN (U:Int → Bool) (xs:List Int):decide (0 ≤ KU U xs) = xs.any U:=by
 unfold KU
 split
 ·rename_i i h
  obtain ⟨h1,h2,_⟩ := List.findIdx?_eq_some_iff_getElem.1 h
  rw [List.any_eq_true.2 ⟨xs[i],List.getElem_mem h1,h2⟩]; simp
 ·rename_i h
  rw [List.findIdx?_eq_none_iff] at h
  have : xs.any U = false := by rw [List.any_eq_false]; intro x hx;rw [h x hx]; decide
  rw [this]; rfl
theorem Ho (xs:List Int) (n:Nat) (Af:List Nat) (i loan:Int) (hxl:xs.length ≤ 1000) (hx:∀ v ∈ xs,0 ≤ v ∧ v < 6) (hA:Af.length = n * 6) (hi:0 ≤ i ∧ i < n) (hl:0 ≤ loan ∧ loan < 62) (hs:∀ z:Nat,Sm (cG Af i.toNat)[z]!) :
  PC Tryz.prog 115 [sl cI xs,.clos (.func 117) [] [.iptr [.imm n (flat cW Af)],.iptr [iv i],.iptr [iv loan]]] (fun r => r = bv (xs.any (u1 Af i loan))) := by
 have hix := JX xs n Af i loan hxl hx hA hi hl hs
 refine aD Tryz.func115 Tryz.ntmps115 ?_
 repeat' (first|(apply aF;(apply aA (k := 156);rfl;exact hix;exact Pur.pf;rfl))|refine aC ?_|fail)
 refine aI rfl ⟨?_,rfl⟩
 exact congrArg bv (JN _ _)
theorem Fa (n:Nat):flat cN (List.replicate n 0) = flat cI (List.replicate n (0:Int)):=by
 induction n with
 | zero => rfl
 | succ n ih => rw [List.replicate_succ,List.replicate_succ]; show cN 0 ++ flat cN _ = cI 0 ++ flat cI _; rw [ih]; rfl
theorem cY (ts:List Int) (bd:List AL.Stmt) (pts:List Pnt) (f t:Nat) (w:WG ts pts) (hf:f < pts.length) (ht:t < pts.length) :
  PC Tryz.prog 71 [aG ts bd pts,iv (f : Int),iv (t : Int)] (fun r => r = .tup [sl cI (dT (cO pts f t)),bv (decide (0 ≤ eX (j3 pts f) t))]) := by
 have hpl := w.pl
 have hbe : ∀ h,BI pts f (gX pts f h) := l6 w.nx hf
 refine aD Tryz.func71 Tryz.ntmps71 ?_
 repeat' (first|refine aC ?_|fail)
 rw [Fa]
 refine aH (σ := Nat × List Int) [0,1,2,8,23] [] (fun k => [(24,iv (k.1 : Int))]) (fun k => [(0,some (flat cI k.2))]) (fun k => k.1 ≤ pts.length ∧ k.2.length = pts.length ∧ (∀ l,l < k.1 → k.2[l]! = -1)) (fun k => pts.length - k.1) (0,List.replicate pts.length 0) ⟨by omega,by simp,by omega⟩ ?_
 rintro ⟨k,u⟩ ⟨hk,hul,hu⟩
 dsimp only at hk hul hu
 try dsimp only
 by_cases hkn : k < pts.length
 ·repeat' (first | refine aC ?_ | (refine aJ ?_ ?_ <;> intro hc hq <;> try (exfalso; omega))|fail)
  (refine bC (k + 1,_) (Le.renA [(0,0)]) ?_ ?_)
  ·refine ⟨by omega, by dsimp only; rw [List.length_set]; exact hul, fun l hl => ?_⟩
   dsimp only at hl ⊢
   rw [aP]
   by_cases e : k = l
   ·rw [if_pos ⟨e,by omega⟩]
   ·rw [if_neg (by omega)]; exact hu l (by omega)
  ·dsimp only;omega
 ·repeat' (first | refine aC ?_ | (refine aJ ?_ ?_ <;> intro hc hq <;> try (exfalso; omega))|fail)
  have hbk0 : u = mY pts.length [] := aY (by rw [dQ,hul]) fun l hl => by rw [hu l (by omega),dS (by omega)]; rfl
  subst hbk0
  refine aH (σ := Nat × List (Nat × Nat) × List Int × Nat) [0,1,2,8] [] (fun s => [(10,.own 1 0 s.2.2.2 1)]) (fun s => [(0,some (flat cI (mY pts.length s.2.1))),(1,some (flat cI s.2.2.1))]) (fun s => s.2.1 = gX pts f s.1 ∧ s.2.2.1 = dL f s.2.1 s.1 ∧ s.2.2.2 = s.2.2.1.length ∧ s.1 ≤ s.2.1.length + 1 ∧ (0 ≤ eX s.2.1 t → 0 < s.2.2.2)) (fun s => pts.length + 1 - s.1) (0,[],[(f : Int)],1) ⟨rfl,rfl,rfl,by dsimp only;omega,fun h => by dsimp only;omega⟩ ?_
  rintro ⟨h,E,T,m⟩ ⟨hE,hT,hm,hh,hmt⟩
  dsimp only at hE hT hm hh hmt
  try dsimp only
  have I := hbe h
  rw [← hE] at I
  have hle := I.le w.nx
  have hbt : (mY pts.length E)[t]! = eX E t := dS ht
  have hbl := dQ pts.length E
  by_cases hlk : eX E t < 0
  by_cases hgo : 0 < T.length
  ·have hlt : h < (iD f E).length := by
    have := gL f E h;rw [dI]; rw [← hT] at this;omega
   have hcons := mJ hlt
   have hqo := tQ hlt
   obtain ⟨a,ha⟩ : ∃ a,a = (iD f E)[h]! := ⟨_,rfl⟩
   rw [← ha] at hcons hqo
   have hal : a < pts.length := by
    rcases hqo with e|e
    ·rw [e]; exact hf
    ·obtain ⟨x,hx,e⟩ := List.mem_map.1 e;rw [← e]; exact (hle.2 x hx).1
   rw [hcons] at hT
   subst hT
   simp only [List.length_cons] at hm
   repeat' (first|(apply aF;first|(with_reducible apply cP (d := 10))|(apply jI;rfl;rfl;omega;rfl))|refine aC ?_|(refine aJ ?_ ?_ <;> intro hc hq <;> try (exfalso;omega))|(refine b9 ?_ ?_ <;> intro hg hq <;> try (exfalso;omega))|fail)
   refine fF (eG ?_ (Le.mvO (d := 47) (i := 1) rfl rfl (by simp [aK]) (by decide)))
   have hnl := w.nl a hal
   have hpop : dL f E (h + 1) = dL f (fS E a (pts[a]!.next.take 0)) (h + 1) := rfl
   have hnk := w.nx a hal
   have hek : ∀ k,BI pts f (fS E a (pts[a]!.next.take k)) := fun k => qK _ _ I hqo (fun z hz => ⟨hal,by have := hnk z (List.mem_of_mem_take hz);rw [Int.toNat_of_nonneg this.1]; exact List.mem_of_mem_take hz⟩)
   repeat' (first|refine aC ?_|fail)
   refine aH (σ := Nat × List (Nat × Nat) × List Int × Nat) [0,1,2,8,55,56] [] (fun s => [(57,iv (s.1 : Int)),(11,iv (a : Int)),(10,.own 2 0 s.2.2.2 1)]) (fun s => [(0,some (flat cI (mY pts.length s.2.1))),(2,some (flat cI s.2.2.1))]) (fun s => s.1 ≤ pts[a]!.next.length ∧ s.2.1 = fS E a (pts[a]!.next.take s.1) ∧ s.2.2.1 = dL f s.2.1 (h + 1) ∧ s.2.2.2 = s.2.2.1.length) (fun s => pts[a]!.next.length - s.1) (0,E,dL f E (h + 1),m - 1) ⟨by omega,rfl,hpop,by dsimp only;omega⟩ ?_
   rintro ⟨k,E2,T2,m2⟩ ⟨hk,hE2,hT2,hm2⟩
   dsimp only at hk hE2 hT2 hm2
   try dsimp only
   have I2 := hek k
   rw [← hE2] at I2
   have hle2 := I2.le w.nx
   have hbl2 := dQ pts.length E2
   have htl2 := gL f E2 (h + 1)
   rw [← hT2] at htl2
   by_cases hkn : k < pts[a]!.next.length
   ·have hz := hnk _ (aZ _ _ hkn)
    have hbz : (mY pts.length E2)[(pts[a]!.next[k]!).toNat]! = eX E2 (pts[a]!.next[k]!).toNat := dS (by omega)
    have hsu := n8 E a pts[a]!.next k hkn
    rw [← hE2] at hsu
    have hql : h + 1 ≤ (iD f E2).length := by
     have h1 := eJ a (pts[a]!.next.take k) E
     rw [← hE2] at h1
     have := h1.length_le
     rw [dI] at hlt ⊢; omega
    by_cases hlz : eX E2 (pts[a]!.next[k]!).toNat < 0
    ·repeat' (first | (apply aF; (apply aL (t := _);rfl;rfl;rfl;exact (rfl:_=some [_]);rfl;rfl)) | refine aC ?_ | (refine aJ ?_ ?_ <;> intro hc hq <;> try (exfalso; omega))|fail)
     rw [pL hlz (by omega)]
     (refine bC (k + 1,_,_,_) (Le.renA [(0,0),(2,4)]) ?_ ?_)
     ·refine ⟨by dsimp only;omega,by dsimp only;rw [hsu,pG hlz],by dsimp only;rw [oF hql,hT2,Int.toNat_of_nonneg hz.1],by dsimp only;rw [List.length_append]; simp;omega⟩
     ·dsimp only;omega
    ·repeat' (first | refine aC ?_ | (refine aJ ?_ ?_ <;> intro hc hq <;> try (exfalso; omega))|fail)
     (refine bC (k + 1,E2,T2,m2) (Le.renA [(0,0),(2,2)]) ?_ ?_)
     ·refine ⟨by dsimp only;omega,by dsimp only;rw [hsu,vN (by omega)],hT2,hm2⟩
     ·dsimp only;omega
   ·repeat' (first | refine aC ?_ | (refine aJ ?_ ?_ <;> intro hc hq <;> try (exfalso; omega))|fail)
    have hkl : k = pts[a]!.next.length := by omega
    rw [hkl,List.take_length] at hE2
    have hpre : E <+: E2 := by rw [hE2]; exact eJ _ _ _
    have hple := hpre.length_le
    rw [dI] at hlt
    (refine bC (h + 1,E2,T2,m2) (Le.renA [(0,0),(1,2)]) ?_ ?_)
    ·refine ⟨?_, hT2, hm2, by dsimp only; omega, fun hl => ?_⟩
     ·dsimp only;rw [hE2,gX,← hE,if_pos (by rw [dI]; exact hlt),← ha]
     ·dsimp only at hl ⊢
      have : E.length ≠ E2.length := fun e => by
       have := hpre.eq_of_length e
       rw [this] at hlk;omega
      omega
    ·dsimp only;omega
  ·have hT0 : T = [] := List.eq_nil_of_length_eq_zero (by omega)
   have hee : E = j3 pts f := by
    rw [hE]; exact uF w.nx hf (by rw [← hE]; rw [hT] at hT0;exact oH.1 hT0)
   have hm0 : m = 0 := by omega
   repeat' (first|refine aC ?_|(refine aJ ?_ ?_ <;> intro hc hq <;> try (exfalso;omega))|(refine b9 ?_ ?_ <;> intro hg hq <;> try (exfalso;omega))|fail)
   (refine bF (Le.nilImm (d := 6) rfl) ?_; refine aI rfl ?_)
   refine ⟨?_,(by (rfl))⟩
   have e1 : cO pts f t = [] := by unfold cO;rw [← hee,if_neg (by omega)]
   rw [e1,← hee,decide_eq_false (by omega)]
   rfl
  ·have hm1 := hmt (by omega)
   repeat' (first|refine aC ?_|(refine aJ ?_ ?_ <;> intro hc hq <;> try (exfalso;omega))|(refine b9 ?_ ?_ <;> intro hg hq <;> try (exfalso;omega))|fail)
   have hwt : pts.length ≤ 61 := hpl
   have hlk0 : 0 ≤ eX E t := by omega
   have hpre : E <+: j3 pts f := by rw [hE]; exact tV (h := h) (by omega)
   obtain ⟨_,a0,R0,hx0,hcs0⟩ := CS.start w.nx hf hpre hlk0
   have hen : eX (j3 pts f) t = eX E t := (pH (f := f) hpre (hbe _).nd (dU.1 hlk0)).2
   have hbt0 : (mY pts.length E)[t]! = (a0 : Int) := by rw [hbt,hx0]
   rw [hbt0]
   refine aH (σ := Nat × List (Nat × Nat) × List Int × Nat) [1,8] [0] (fun s => [(15,iv (s.1 : Int)),(14,.own 2 0 s.2.2.2 1)]) (fun s => [(2,some (flat cI s.2.2.1))]) (fun s => CS pts f t E s.1 s.2.1 s.2.2.1.reverse ∧ s.2.2.2 = s.2.2.1.length) (fun s => s.2.1.length) (a0,R0,[(t : Int)],1) ⟨hcs0,rfl⟩ ?_
   rintro ⟨x,R,u,m3⟩ ⟨hcs,hm3⟩
   dsimp only at hcs hm3
   try dsimp only
   have hcl := hcs.len
   rw [List.length_reverse] at hcl
   have hxl := hcs.xl
   have hbx : (mY pts.length E)[x]! = eX E x := dS hxl
   by_cases hxf : x = f
   ·have hcs2 := hcs
    rw [hxf] at hcs2
    have hfin := hcs2.fin
    repeat' (first|(apply aF;first|(apply aL (t := _);rfl;rfl;rfl;exact (rfl:_=some [_]);rfl;rfl)|(apply Fo;rfl;(rfl);(apply IN <;> (simp only [jY] <;> omega));rfl;rfl))|refine aC ?_|(refine aJ ?_ ?_ <;> intro hc hq <;> try (exfalso;omega))|fail)
    refine bF (Le.frzD (d := 6) (i := 4) rfl rfl) ?_
    refine aI rfl ⟨?_,(by exact Pur.pf)⟩
    rw [hfin,hen,decide_eq_true hlk0,List.reverse_append,hxf,hm3]
    simp [aN,sl]
   ·obtain ⟨a, R', h1, h2, h3⟩ := hcs.step w.nx hf I hxf
    rw [h1] at hbx
    repeat' (first|(apply aF;(apply aL (t := _);rfl;rfl;rfl;exact (rfl:_=some [_]);rfl;rfl))|refine aC ?_|(refine aJ ?_ ?_ <;> intro hc hq <;> try (exfalso;omega))|fail)
    rw [hbx]
    (refine bC (a,R',_,_) (Le.renA [(0,0),(2,4)]) ?_ ?_)
    ·exact ⟨by dsimp only;rw [List.reverse_append]; exact h2,by dsimp only;rw [List.length_append,hm3]; rfl⟩
    ·dsimp only;omega
theorem fJ (ts:List Int) (bd:List AL.Stmt) (pts:List Pnt) (f:Flows ts pts) (w:WG ts pts) (a l:Nat) (ha:a < pts.length) (hl:l < pts.length) :
  PC Tryz.prog 70 [aG ts bd pts,iv (a : Int),iv (l : Int)] (fun r => r = .tup [iv (gR (cO pts a) (cZ ts pts f.Af l) pts.length).1,bv (decide (0 ≤ (gR (cO pts a) (cZ ts pts f.Af l) pts.length).1))]) := by
 have hpl := w.pl
 have htl := w.tl
 have b := f.bnd w
 have hli := sT ts bd pts f.Af w f.gf
 refine aD Tryz.func70 Tryz.ntmps70 ?_
 repeat' (first|(apply aF;(apply aA (k := 111);rfl;exact hli;exact Pur.pf;rfl))|refine aC ?_|fail)
 refine AW.le ?_ (Le.frzP (d := 5) (i := 0) rfl rfl)
 refine AW.le ?_ (Le.frzP (d := 8) (i := 1) rfl rfl)
 refine aH (σ := Nat × Int × Nat) [0,1,5,8,21,22] [] (fun s => [(23,iv (s.1 : Int)),(9,iv s.2.1),(10,iv (s.2.2 : Int))]) (fun s => []) (fun s => s.1 ≤ pts.length ∧ s.2.1 = (gR (cO pts a) (cZ ts pts f.Af l) s.1).1 ∧ s.2.2 = (gR (cO pts a) (cZ ts pts f.Af l) s.1).2.length) (fun s => pts.length - s.1) (0,-1,0) ⟨by omega,rfl,rfl⟩ ?_
 rintro ⟨i,bi,li⟩ ⟨hi,hbi,hli2⟩
 dsimp only at hi hbi hli2
 try dsimp only
 by_cases hin : i < pts.length
 ·have hus := uK ts bd pts pts[i]! htl
  have hsm : Sm (wS ts pts[i]! [1,2,3]) := c6 (by omega)
  have hmem : ∀ v ∈ a7 (wS ts pts[i]! [1, 2, 3]), 0 ≤ v ∧ v < 6 := fun v hv => by
   obtain ⟨v',h3,h4,rfl⟩ := dA.1 hv
   rw [cK,Bool.and_eq_true,decide_eq_true_eq] at h4
   omega
  have hco := Ho (a7 (wS ts pts[i]! [1,2,3])) pts.length f.Af (i : Int) (l : Int) (by unfold a7;rw [List.length_map]; exact Nat.le_trans (List.length_filter_le _ _) (by simp)) hmem f.gf.1 (by omega) (by omega) (b.rs i hin)
  have hU : (a7 (wS ts pts[i]! [1,2,3])).any (u1 f.Af (i : Int) (l : Int)) = cZ ts pts f.Af l i := F3 ts pts f.Af l i htl
  rw [hU] at hco
  have hsw := cY ts bd pts a i w ha hin
  have hwl := eP (x := i) w.nx ha
  rw [← bT] at hwl
  repeat' (first|(apply aF;first|((apply o8 11);(case hx|hH|hc|hN => rfl))|(apply aA (k := 115);rfl;exact hco;exact Pur.pf;rfl)|(apply aA (k := 71);rfl;exact hsw;exact Pur.pf;rfl)|(first|(apply aA (k := 100);rfl;(apply vK <;> (assumption));(rfl);rfl)|(apply aA (k := 116);rfl;(apply uK <;> (assumption));exact Pur.pf;rfl)))|refine aC ?_|(refine aJ ?_ ?_ <;> intro hc hq <;> try (exfalso;omega))|(refine b9 ?_ ?_ <;> intro hg hq <;> try (exfalso;omega))|fail)
  ·have hb := tX (W := cO pts a) (U := cZ ts pts f.Af l) (i := i) (.inl (by assumption))
   (refine bC (i + 1,bi,li) (Le.renA []) ?_ ?_)
   ·exact ⟨by dsimp only;omega,by dsimp only;rw [hb,hbi],by dsimp only;rw [hb,hli2]⟩
   ·dsimp only;omega
  ·have hu : cZ ts pts f.Af l i = true := by assumption
   have hW := Bm w.nx ha (by assumption : 0 ≤ eX (j3 pts a) i)
   have hb := pO (W := cO pts a) (U := cZ ts pts f.Af l) hu hW (by rw [bT] at *; omega)
   (refine bC (i + 1,_,_) (Le.renA []) ?_ ?_)
   ·exact ⟨by dsimp only;omega,by dsimp only;rw [hb],by dsimp only;rw [hb,bT]⟩
   ·dsimp only;omega
  ·have hb := Bl (W := cO pts a) (U := cZ ts pts f.Af l) (i := i) (by omega) (by rw [bT] at *; omega)
   (refine bC (i + 1,bi,li) (Le.renA []) ?_ ?_)
   ·exact ⟨by dsimp only;omega,by dsimp only;rw [hb,hbi],by dsimp only;rw [hb,hli2]⟩
   ·dsimp only;omega
  ·have hu : cZ ts pts f.Af l i = true := by assumption
   have hW := Bm w.nx ha (by assumption : 0 ≤ eX (j3 pts a) i)
   have hb := pO (W := cO pts a) (U := cZ ts pts f.Af l) hu hW (by rw [bT] at *; omega)
   (refine bC (i + 1,_,_) (Le.renA []) ?_ ?_)
   ·exact ⟨by dsimp only;omega,by dsimp only;rw [hb],by dsimp only;rw [hb,bT]⟩
   ·dsimp only;omega
  ·have hb := tX (W := cO pts a) (U := cZ ts pts f.Af l) (i := i) (.inr (BT (by assumption)))
   (refine bC (i + 1,bi,li) (Le.renA []) ?_ ?_)
   ·exact ⟨by dsimp only;omega,by dsimp only;rw [hb,hbi],by dsimp only;rw [hb,hli2]⟩
   ·dsimp only;omega
 ·repeat' (first | refine aC ?_ | (refine aJ ?_ ?_ <;> intro hc hq <;> try (exfalso; omega))|fail)
  refine aI rfl ⟨?_,rfl⟩
  rw [show pts.length = i by omega,← hbi]; rfl
theorem Dv (ts:List Int) (pts:List Pnt) (f t:Nat) (E:List (Nat × Nat)) (w:WG ts pts) (hf:f < pts.length) (ht:t < pts.length) (hE:E <+: j3 pts f) (hlk:0 ≤ eX E t) :
  PC Tryz.prog 104 [sl cI (mY pts.length E),iv (f : Int),iv (t : Int)] (fun r => r = sl cI (dT (cO pts f t))) := by
 have hpl := w.pl
 have hbl := dQ pts.length E
 have hbt : (mY pts.length E)[t]! = eX E t := dS ht
 obtain ⟨I,a0,R0,hx0,hcs0⟩ := CS.start w.nx hf hE hlk
 have hle := I.le w.nx
 rw [hx0] at hbt
 refine aD Tryz.func104 Tryz.ntmps104 ?_
 repeat' (first|refine aC ?_|fail)
 rw [hbt]
 refine aH (σ := Nat × List (Nat × Nat) × List Int × Nat) [0,1] [] (fun s => [(8,iv (s.1 : Int)),(7,.own 0 0 s.2.2.2 1)]) (fun s => [(0,some (flat cI s.2.2.1))]) (fun s => CS pts f t E s.1 s.2.1 s.2.2.1 ∧ s.2.2.2 = s.2.2.1.length) (fun s => s.2.1.length) (a0,R0,[(t : Int)],1) ⟨hcs0,rfl⟩ ?_
 rintro ⟨x,R,u,m⟩ ⟨hcs,hm⟩
 dsimp only at hcs hm
 try dsimp only
 have hcl := hcs.len
 have hxl := hcs.xl
 have hbx : (mY pts.length E)[x]! = eX E x := dS hxl
 by_cases hxf : x = f
 ·have hcs2 := hcs
  rw [hxf] at hcs2
  have hfin := hcs2.fin
  repeat' (first|(apply aF;(apply cD;rfl;rfl;rfl;rfl;rfl;exact Nat.le_refl _;exact EB rfl hm;omega;omega;exact (rfl:_=flat cI (_ :: u));rfl;rfl))|refine aC ?_|(refine aJ ?_ ?_ <;> intro hc hq <;> try (exfalso;omega))|fail)
  refine bF (Le.frzD (d := 6) (i := 2) rfl rfl) ?_
  refine aI rfl ⟨?_,(by (exact a8 _ _))⟩
  rw [hfin,hm,Nat.add_comm]
  rfl
 ·obtain ⟨a, R', h1, h2, h3⟩ := hcs.step w.nx hf I hxf
  rw [h1] at hbx
  repeat' (first|(apply aF;(apply cD;rfl;rfl;rfl;rfl;rfl;exact Nat.le_refl _;exact EB rfl hm;omega;omega;exact (rfl:_=flat cI (_ :: u));rfl;rfl))|refine aC ?_|(refine aJ ?_ ?_ <;> intro hc hq <;> try (exfalso;omega))|fail)
  rw [hbx]
  (refine bC (a,R',_,_) (Le.renA [(0,2)]) ?_ ?_)
  ·exact ⟨h2,by dsimp only;rw [List.length_cons]; omega⟩
  ·dsimp only;omega
theorem iV (ts:List Int) (pts:List Pnt) (f t:Nat) (w:WG ts pts) (hf:f < pts.length) (ht:t < pts.length) :
  PC Tryz.prog 63 [sl bK pts,iv (f : Int),iv (t : Int)] (fun r => r = .tup [sl cI (dT (cO pts f t)),bv (decide (0 ≤ eX (j3 pts f) t))]) := by
 have hpl := w.pl
 have hbe : ∀ h,BI pts f (gX pts f h) := l6 w.nx hf
 refine aD Tryz.func63 Tryz.ntmps63 ?_
 repeat' (first|refine aC ?_|fail)
 rw [Fa]
 refine aH (σ := Nat × List Int) [0,1,2,8] [] (fun k => [(9,iv (k.1 : Int))]) (fun k => [(0,some (flat cI k.2))]) (fun k => k.1 ≤ pts.length ∧ k.2.length = pts.length ∧ (∀ l,l < k.1 → k.2[l]! = -1)) (fun k => pts.length - k.1) (0,List.replicate pts.length 0) ⟨by omega,by simp,by omega⟩ ?_
 rintro ⟨k,u⟩ ⟨hk,hul,hu⟩
 dsimp only at hk hul hu
 try dsimp only
 by_cases hkn : k < pts.length
 ·repeat' (first | refine aC ?_ | (refine aJ ?_ ?_ <;> intro hc hq <;> try (exfalso; omega))|fail)
  (refine bC (k + 1,_) (Le.renA [(0,0)]) ?_ ?_)
  ·refine ⟨by omega, by dsimp only; rw [List.length_set]; exact hul, fun l hl => ?_⟩
   dsimp only at hl ⊢
   rw [aP]
   by_cases e : k = l
   ·rw [if_pos ⟨e,by omega⟩]
   ·rw [if_neg (by omega)]; exact hu l (by omega)
  ·dsimp only;omega
 ·repeat' (first | refine aC ?_ | (refine aJ ?_ ?_ <;> intro hc hq <;> try (exfalso; omega))|fail)
  have hbk0 : u = mY pts.length [] := aY (by rw [dQ,hul]) fun l hl => by rw [hu l (by omega),dS (by omega)]; rfl
  subst hbk0
  refine aH (σ := Nat × List (Nat × Nat) × List Int × Nat) [0,1,2,8] [] (fun s => [(10,.own 1 0 s.2.2.2 1)]) (fun s => [(0,some (flat cI (mY pts.length s.2.1))),(1,some (flat cI s.2.2.1))]) (fun s => s.2.1 = gX pts f s.1 ∧ s.2.2.1 = dL f s.2.1 s.1 ∧ s.2.2.2 = s.2.2.1.length ∧ s.1 ≤ s.2.1.length + 1 ∧ eX s.2.1 t < 0) (fun s => pts.length + 1 - s.1) (0,[],[(f : Int)],1) ⟨rfl,rfl,rfl,by dsimp only;omega,(by show (-1 : Int) < 0;decide)⟩ ?_
  rintro ⟨h,E,T,m⟩ ⟨hE,hT,hm,hh,hlk⟩
  dsimp only at hE hT hm hh hlk
  try dsimp only
  have I := hbe h
  rw [← hE] at I
  have hle := I.le w.nx
  have hbl := dQ pts.length E
  by_cases hgo : 0 < T.length
  ·have hlt : h < (iD f E).length := by
    have := gL f E h;rw [dI]; rw [← hT] at this;omega
   have hcons := mJ hlt
   have hqo := tQ hlt
   obtain ⟨a,ha⟩ : ∃ a,a = (iD f E)[h]! := ⟨_,rfl⟩
   rw [← ha] at hcons hqo
   have hal : a < pts.length := by
    rcases hqo with e|e
    ·rw [e]; exact hf
    ·obtain ⟨x,hx,e⟩ := List.mem_map.1 e;rw [← e]; exact (hle.2 x hx).1
   have hbs : gX pts f (h + 1) = fS E a pts[a]!.next := by rw [hE] at hlt ha ⊢; exact E8 hlt ha
   rw [hcons] at hT
   subst hT
   simp only [List.length_cons] at hm
   repeat' (first|(apply aF;first|(with_reducible apply cP (d := 10))|(apply jI;rfl;rfl;omega;rfl))|refine aC ?_|(refine aJ ?_ ?_ <;> intro hc hq <;> try (exfalso;omega))|fail)
   refine fF (eG ?_ (Le.mvO (d := 35) (i := 1) rfl rfl (by simp [aK]) (by decide)))
   have hnl := w.nl a hal
   have hpop : dL f E (h + 1) = dL f (fS E a (pts[a]!.next.take 0)) (h + 1) := rfl
   have hnk := w.nx a hal
   have hek : ∀ k,BI pts f (fS E a (pts[a]!.next.take k)) := fun k => qK _ _ I hqo (fun z hz => ⟨hal,by have := hnk z (List.mem_of_mem_take hz);rw [Int.toNat_of_nonneg this.1]; exact List.mem_of_mem_take hz⟩)
   repeat' (first|refine aC ?_|fail)
   refine aH (σ := Nat × List (Nat × Nat) × List Int × Nat) [0,1,2,8] [] (fun s => [(12,iv (s.1 : Int)),(11,iv (a : Int)),(10,.own 2 0 s.2.2.2 1)]) (fun s => [(0,some (flat cI (mY pts.length s.2.1))),(2,some (flat cI s.2.2.1))]) (fun s => s.1 ≤ pts[a]!.next.length ∧ s.2.1 = fS E a (pts[a]!.next.take s.1) ∧ s.2.2.1 = dL f s.2.1 (h + 1) ∧ s.2.2.2 = s.2.2.1.length ∧ eX s.2.1 t < 0) (fun s => pts[a]!.next.length - s.1) (0,E,dL f E (h + 1),m - 1) ⟨by omega,rfl,hpop,by dsimp only;omega,hlk⟩ ?_
   rintro ⟨k,E2,T2,m2⟩ ⟨hk,hE2,hT2,hm2,hlk2⟩
   dsimp only at hk hE2 hT2 hm2 hlk2
   try dsimp only
   have I2 := hek k
   rw [← hE2] at I2
   have hle2 := I2.le w.nx
   have hbl2 := dQ pts.length E2
   have htl2 := gL f E2 (h + 1)
   rw [← hT2] at htl2
   by_cases hkn : k < pts[a]!.next.length
   ·have hz := hnk _ (aZ _ _ hkn)
    have hbz : (mY pts.length E2)[(pts[a]!.next[k]!).toNat]! = eX E2 (pts[a]!.next[k]!).toNat := dS (by omega)
    have hsu := n8 E a pts[a]!.next k hkn
    rw [← hE2] at hsu
    have hql : h + 1 ≤ (iD f E2).length := by
     have h1 := eJ a (pts[a]!.next.take k) E
     rw [← hE2] at h1
     have := h1.length_le
     rw [dI] at hlt ⊢; omega
    by_cases hlz : eX E2 (pts[a]!.next[k]!).toNat < 0
    ·have hnew := pG (a := a) hlz
     by_cases hzt : pts[a]!.next[k]! = (t : Int)
     ·have hE3 : E2 ++ [((pts[a]!.next[k]!).toNat, a)] <+: j3 pts f := by
       rw [← hnew,← hsu]
       exact (Df _ _ _ _).trans (by rw [← hbs]; exact tV (h := h + 1) (by have := dI f E;omega))
      have hl3 : 0 ≤ eX (E2 ++ [((pts[a]!.next[k]!).toNat, a)]) t := by
       rw [vB hlz,if_pos (by omega)]; omega
      have hbk := Dv ts pts f t _ w hf ht hE3 hl3
      have hl4 : 0 ≤ eX (j3 pts f) t := by rw [(pH (f := f) hE3 (hbe _).nd (dU.1 hl3)).2]; exact hl3
      rw [← pL hlz (by omega),show sl cI ((mY pts.length E2).set (pts[a]!.next[k]!).toNat (a : Int)) = AV.imm pts.length (flat cI ((mY pts.length E2).set (pts[a]!.next[k]!).toNat (a : Int))) from by unfold sl;rw [List.length_set,dQ]] at hbk
      repeat' (first|(apply aF;(with_reducible apply cP (d := 66)))|refine aC ?_|(refine aJ ?_ ?_ <;> intro hc hq <;> try (exfalso;omega))|fail)
      refine fF (eG ?_ (Le.frzD (d := 8) (i := 0) rfl rfl))
      repeat' (first|(apply aF;(apply aA (k := 104);rfl;exact hbk;exact Pur.pf;rfl))|refine aC ?_|fail)
      refine aI rfl ⟨?_,(by exact Pur.pf)⟩
      rw [decide_eq_true hl4]
      rfl
     ·repeat' (first | (apply aF; (apply aL (t := _);rfl;rfl;rfl;exact (rfl:_=some [_]);rfl;rfl)) | refine aC ?_ | (refine aJ ?_ ?_ <;> intro hc hq <;> try (exfalso; omega))|fail)
      rw [pL hlz (by omega)]
      (refine bC (k + 1,_,_,_) (Le.renA [(0,0),(2,4)]) ?_ ?_)
      ·refine ⟨by dsimp only; omega, by dsimp only; rw [hsu, pG hlz], by dsimp only; rw [oF hql, hT2, Int.toNat_of_nonneg hz.1], by dsimp only; rw [List.length_append]; simp; omega, ?_⟩
       dsimp only;rw [vB hlz,if_neg (by omega)]; exact hlk2
      ·dsimp only;omega
    ·repeat' (first | refine aC ?_ | (refine aJ ?_ ?_ <;> intro hc hq <;> try (exfalso; omega))|fail)
     (refine bC (k + 1,E2,T2,m2) (Le.renA [(0,0),(2,2)]) ?_ ?_)
     ·refine ⟨by dsimp only;omega,by dsimp only;rw [hsu,vN (by omega)],hT2,hm2,hlk2⟩
     ·dsimp only;omega
   ·repeat' (first | refine aC ?_ | (refine aJ ?_ ?_ <;> intro hc hq <;> try (exfalso; omega))|fail)
    have hkl : k = pts[a]!.next.length := by omega
    rw [hkl,List.take_length] at hE2
    have hpre : E <+: E2 := by rw [hE2]; exact eJ _ _ _
    have hple := hpre.length_le
    rw [dI] at hlt
    (refine bC (h + 1,E2,T2,m2) (Le.renA [(0,0),(1,2)]) ?_ ?_)
    ·exact ⟨by dsimp only;rw [hbs,hE2],hT2,hm2,by dsimp only;omega,hlk2⟩
    ·dsimp only;omega
  ·have hT0 : T = [] := List.eq_nil_of_length_eq_zero (by omega)
   have hee : E = j3 pts f := by
    rw [hE]; exact uF w.nx hf (by rw [← hE]; rw [hT] at hT0;exact oH.1 hT0)
   have hm0 : m = 0 := by omega
   repeat' (first|(apply aF;(apply aL (t := _);rfl;rfl;rfl;(rfl);rfl;rfl))|refine aC ?_|(refine aJ ?_ ?_ <;> intro hc hq <;> try (exfalso;omega))|fail)
   refine aI rfl ⟨?_,(by (rfl))⟩
   rw [BT (by rw [← hee]; exact hlk),← hee,decide_eq_false (by omega)]
   rfl
theorem EX (ts:List Int) (pts:List Pnt) (a:Nat) (F0:List Bool) (w:WG ts pts) (ha:a < pts.length) (hF0:GoodR pts a F0):PC Tryz.prog 107 [sl bK pts,iv (a:Int)] (fun r => r = sl cB F0):=by
 have hpl := w.pl
 have hnl := w.nl a ha
 have hst := RI.start w.nx ha
 have hmu := Cv hpl hnl
 refine aD Tryz.func107 Tryz.ntmps107 ?_
 repeat' (first|refine aC ?_|fail)
 refine aH (σ := List Bool × List Int × Nat) [0,5] [] (fun s => [(6,.own 2 0 s.2.2 1)]) (fun s => [(0,some (flat cB s.1)),(2,some (flat cI s.2.1))]) (fun s => RI pts a s.1 s.2.1 ∧ AF s.1 s.2.1 ≤ 200 ∧ s.2.2 = s.2.1.length) (fun s => AF s.1 s.2.1) (List.replicate pts.length false,pts[a]!.next,0 + pts[a]!.next.length) ⟨hst,hmu,Nat.zero_add _⟩ ?_
 rintro ⟨F,T,m⟩ ⟨I,hm,hml⟩
 dsimp only at I hm hml
 try dsimp only
 have hFl := I.len
 have hTl := GV F T
 by_cases hT : 0 < m
 ·repeat' (first | (apply aF; first | (with_reducible apply cP (d := 6)) | (apply rR (h := m - 1);rfl;rfl;omega;omega;rfl)) | refine aC ?_ | (refine aJ ?_ ?_ <;> intro hc hq <;> try (exfalso; omega))|fail)
  rw [show ((m : Int) - 1).toNat = m - 1 by omega]
  refine fF (eG ?_ (Le.cut (i := 2) (m - 1) rfl))
  rw [EE]
  obtain ⟨hkm,hks⟩ := Er hml hT
  obtain ⟨k,hkk⟩ : ∃ k,k = T[m - 1]! := ⟨_,rfl⟩
  rw [← hkk] at hkm hks ⊢
  have hk := I.tw k hkm
  have hnk := w.nl k.toNat (by omega)
  have hk1 : 0 ≤ k ∧ k < pts.length := ⟨hk.1,hk.2.1⟩
  have htk : (T.take (m - 1)).length = m - 1 := by rw [List.length_take]; omega
  have htl : ∀ G,AF G (T.take (m - 1)) + 1 = AF G T := fun G => by unfold AF;rw [htk]; omega
  have htF := htl F
  by_cases hv : F[k.toNat]! = true
  ·repeat' (first | (apply aF; (apply cD;rfl;rfl;rfl;rfl;rfl;(rw [aK]; omega);(exact oN (by (rfl)));omega;omega;(exact kP (by (omega)));rfl;rfl)) | refine aC ?_ | (refine aJ ?_ ?_ <;> intro hc hq <;> try (exfalso; omega))|fail)
   all_goals try exact absurd (hv.symm.trans (by assumption : F[k.toNat]! = false)) (by decide)
   (refine bC (F,_,_) (Le.renA [(0,0),(2,2)]) ?_ ?_)
   ·exact ⟨I.vis hks (fun x hx => List.mem_of_mem_take hx) hv,by dsimp only;omega,by dsimp only;omega⟩
   ·dsimp only;omega
  ·rw [Bool.not_eq_true] at hv
   have hms := Ib (F := F) (k := k.toNat) (by omega) hv (T.take (m - 1))
   have hma := G9 (F.set k.toNat true) (T.take (m - 1)) pts[k.toNat]!.next
   repeat' (first|(apply aF;(apply cD;rfl;rfl;rfl;rfl;rfl;(rw [aK]; omega);(exact oN (by (rfl)));omega;omega;(exact kP (by (omega)));rfl;rfl))|refine aC ?_|(refine aJ ?_ ?_ <;> intro hc hq <;> try (exfalso;omega))|fail)
   all_goals try exact absurd (hv.symm.trans (by assumption : F[k.toNat]! = true)) (by decide)
   (refine bC (F.set k.toNat true,_,_) (Le.renA [(0,0),(2,3)]) ?_ ?_)
   ·exact ⟨I.new w.nx hkm (fun x hx => by
     rcases hks x hx with h|h
     ·exact .inl h
     ·exact .inr (List.mem_append_left _ h)) (fun x hx => List.mem_append_right _ hx) (fun x hx => by
     rcases List.mem_append.1 hx with h|h
     ·exact .inl (List.mem_of_mem_take h)
     ·exact .inr h),by dsimp only;omega,by dsimp only;rw [List.length_append]; omega⟩
   ·dsimp only;omega
 ·have hT0 : T = [] := List.eq_nil_of_length_eq_zero (by omega)
  rw [hT0] at I
  repeat' (first|refine aC ?_|(refine aJ ?_ ?_ <;> intro hc hq <;> try (exfalso;omega))|fail)
  refine bF (Le.frzD (d := 4) (i := 0) rfl rfl) ?_
  refine aI rfl ⟨?_,(by (exact a8 _ _))⟩
  have e := I.fin hF0 w.nx
  rw [← e]
  simp only [aN,sl,hFl]
def DJ (ts : List Int) (x : Pnt) (fr : List (List Bool)) (loan v : Nat) : Bool := fr[v]![loan]! && decide (aV ts x v ≠ 0)
theorem Cm (ts:List Int) (x:Pnt) (fr:List (List Bool)) (pl:List Bool) (loan:Nat) (hn:ts.length ≤ 6) (h1:fr.length = ts.length) (h2:∀ v,v < ts.length → loan < fr[v]!.length) :
  PC Tryz.prog 108 [sl cI ts,nB x,.agg [sl fQ fr,sl cB pl],iv (loan : Int)] (fun r => r = bv ((List.range ts.length).any (DJ ts x fr loan))) := by
 refine aD Tryz.func108 Tryz.ntmps108 ?_
 repeat' (first|refine aC ?_|fail)
 refine aH (σ := Nat) [0,3,5,6] [0,1] (fun k => [(9,iv (k : Int))]) (fun k => []) (fun k => k ≤ ts.length ∧ ∀ v,v < k → DJ ts x fr loan v = false) (fun k => ts.length - k) (0) ⟨by omega,by omega⟩ ?_
 rintro k ⟨hk,hall⟩
 try dsimp only
 by_cases hkn : k < ts.length
 ·have hlo := h2 k hkn
  have hnx : DJ ts x fr loan k = false → ∀ v, v < k + 1 → DJ ts x fr loan v = false := fun h v hv => by
   by_cases e : v = k
   ·rw [e]; exact h
   ·exact hall v (by omega)
  have hyes : DJ ts x fr loan k = true → (List.range ts.length).any (DJ ts x fr loan) = true := fun h => List.any_eq_true.2 ⟨k,List.mem_range.2 hkn,h⟩
  have hus : DJ ts x fr loan k = (fr[k]![loan]! && decide (aV ts x k ≠ 0)) := rfl
  repeat' (first|(apply aF;(apply aA (k := 139);rfl;(apply jV <;> (omega));exact Pur.pf;rfl))|refine aC ?_|(refine aJ ?_ ?_ <;> intro hc hq <;> try (exfalso;omega))|(refine b9 ?_ ?_ <;> intro hg hq <;> try (exfalso;omega))|fail)
  ·refine aI rfl ⟨?_, rfl⟩
   rw [hyes (by rw [hus,(by assumption : fr[k]![loan]! = true),decide_eq_true (by assumption)]; rfl)]; rfl
  ·(refine bC (k + 1) (Le.renA [(0, 0), (1, 1)]) ?_ ?_)
   ·exact ⟨by omega,hnx (by rw [hus,decide_eq_false (fun h => h (by assumption)),Bool.and_false])⟩
   ·omega
  ·(refine bC (k + 1) (Le.renA [(0, 0), (1, 1)]) ?_ ?_)
   ·exact ⟨by omega,hnx (by rw [hus,(by assumption : fr[k]![loan]! = false),Bool.false_and])⟩
   ·omega
 ·repeat' (first | refine aC ?_ | (refine aJ ?_ ?_ <;> intro hc hq <;> try (exfalso; omega))|fail)
  refine aI rfl ⟨?_,rfl⟩
  have : (List.range ts.length).any (DJ ts x fr loan) = false := by
   rw [List.any_eq_false]; intro v hv;rw [hall v (by rw [List.mem_range] at hv;omega)]; decide
  rw [this]; rfl
theorem GR (ts:List Int) (pts:List Pnt) (Af Ap:List Nat) (loan i:Nat) (hA:Af.length = pts.length * 6) (hn:ts.length ≤ 6) (hi:i < pts.length) (hl:loan < pts.length):(List.range ts.length).any (DJ ts pts[i]! (gE ts.length pts.length Af Ap i).1 loan) = cZ ts pts Af loan i:=by
 unfold cZ
 rw [Bool.eq_iff_iff,List.any_eq_true,List.any_eq_true]
 have key : ∀ v, v < ts.length → DJ ts pts[i]! (gE ts.length pts.length Af Ap i).1 loan v = (decide (aV ts pts[i]! v ≠ 0) && (cG Af i)[v]!.testBit loan) := fun v hv => by
  unfold DJ gE
  dsimp only
  rw [a6 _ _ _ hv,a6 _ _ _ hl,eQ hA hi (by omega),Bool.and_comm]
 constructor
 ·rintro ⟨v,hv,h⟩; exact ⟨v,hv,by rw [← key v (List.mem_range.1 hv)]; exact h⟩
 ·rintro ⟨v,hv,h⟩; exact ⟨v,hv,by rw [key v (List.mem_range.1 hv)]; exact h⟩
theorem jJ (p:Prg) (a l:Nat) (f:Flows p.types (aB p)) (F0:List Bool) (hl:p.types.length ≤ 1048576) (hs:aM p.body ≤ 1048576) (hv:bR p = true) (ha:a < (aB p).length) (hll:l < (aB p).length) (hF0:GoodR (aB p) a F0) :
  PC Tryz.prog 64 [cA p,iv (a : Int),iv (l : Int)] (fun r => r = if 0 ≤ (gR (cO (aB p) a) (cZ p.types (aB p) f.Af l) (aB p).length).1 then .tup [iv (gR (cO (aB p) a) (cZ p.types (aB p) f.Af l) (aB p).length).1,bv true] else .tup [iv 0,bv false]) := by
 have w := WG.of_valid hv
 have hpl := w.pl
 have htl := w.tl
 have hPP := zA p hl hs
 rw [if_pos hv] at hPP
 have hfl := wY p f.Af f.Ap hs w f.gf f.gp
 have hfll : ((List.range (aB p).length).map (gE p.types.length (aB p).length f.Af f.Ap)).length = (aB p).length := by simp
 have hfi : ∀ i,i < (aB p).length → ((List.range (aB p).length).map (gE p.types.length (aB p).length f.Af f.Ap))[i]! = gE p.types.length (aB p).length f.Af f.Ap i := fun i hi => a6 _ _ _ hi
 have hf1 : ∀ i,(gE p.types.length (aB p).length f.Af f.Ap i).1.length = p.types.length := fun i => by simp [gE]
 have hf2 : ∀ i v, v < p.types.length → l < (gE p.types.length (aB p).length f.Af f.Ap i).1[v]!.length := fun i v hv => by
  unfold gE;dsimp only;rw [a6 _ _ _ hv]; simpa using hll
 have hus := fun (i : Nat) (hi : i < (aB p).length) => Cm p.types (aB p)[i]! ((List.range (aB p).length).map (gE p.types.length (aB p).length f.Af f.Ap))[i]!.1 ((List.range (aB p).length).map (gE p.types.length (aB p).length f.Af f.Ap))[i]!.2 l htl (by rw [hfi i hi]; exact hf1 i) (by rw [hfi i hi]; exact hf2 i)
 have hU : ∀ i,i < (aB p).length → (List.range p.types.length).any (DJ p.types (aB p)[i]! ((List.range (aB p).length).map (gE p.types.length (aB p).length f.Af f.Ap))[i]!.1 l) = cZ p.types (aB p) f.Af l i := fun i hi => by rw [hfi i hi]; exact GR _ _ _ _ _ _ f.gf.1 htl hi hll
 clear hfi hf1 hf2
 generalize (List.range (aB p).length).map (gE p.types.length (aB p).length f.Af f.Ap) = FL at hfl hfll hus hU
 have hfr := EX p.types (aB p) a F0 w ha hF0
 have hF0l := hF0.l
 have hUt := p.types.length
 refine aD Tryz.func64 Tryz.ntmps64 ?_
 repeat' (first|(apply aF;first|(apply aA (k := 105);rfl;exact hPP;exact Pur.pf;rfl)|(apply aA (k := 106);rfl;exact hfl;exact Pur.pf;rfl)|(apply aA (k := 107);rfl;exact hfr;exact Pur.pf;rfl)|(apply aL (t := _);rfl;rfl;rfl;(rfl);rfl;rfl))|refine aC ?_|(refine aJ ?_ ?_ <;> intro hc hq <;> try (exfalso;omega))|(refine b9 ?_ ?_ <;> intro hg hq <;> try (exfalso;omega))|fail)
 refine aH (σ := Nat × List Int) [1,2,3,8,9,10] [0] (fun s => [(12,iv (s.1 : Int)),(11,sl cI s.2)]) (fun s => []) (fun s => s.1 ≤ (aB p).length ∧ s.2 = dT (gR (cO (aB p) a) (cZ p.types (aB p) f.Af l) s.1).2) (fun s => (aB p).length - s.1) (0,[]) ⟨by omega,rfl⟩ ?_
 rintro ⟨i,bl⟩ ⟨hi,hbl⟩
 dsimp only at hi hbl
 try dsimp only
 have hbp := HB (W := cO (aB p) a) (U := cZ p.types (aB p) f.Af l) (i := i)
 have hbln := GC (W := cO (aB p) a) (U := cZ p.types (aB p) f.Af l) (fun j => eP (x := j) w.nx ha) i
 have hbll : bl.length = (gR (cO (aB p) a) (cZ p.types (aB p) f.Af l) i).2.length := by rw [hbl,bT]
 by_cases hin : i < (aB p).length
 ·have hu := hus i hin
  rw [hU i hin] at hu
  have hw := iV p.types (aB p) a i w ha hin
  have hwl := eP (x := i) w.nx ha
  rw [← bT] at hwl
  repeat' (first|(apply aF;first|(apply aA (k := 108);rfl;exact hu;exact Pur.pf;rfl)|(apply aA (k := 63);rfl;exact hw;exact Pur.pf;rfl))|refine aC ?_|(refine aJ ?_ ?_ <;> intro hc hq <;> try (exfalso;omega))|(refine b9 ?_ ?_ <;> intro hg hq <;> try (exfalso;omega))|refine cC ?_|fail)
  ·have hb := tX (W := cO (aB p) a) (U := cZ p.types (aB p) f.Af l) (i := i) (.inl (by assumption))
   (refine bC (i + 1,bl) (Le.renA [(0,0)]) ?_ ?_)
   ·exact ⟨by dsimp only;omega,by dsimp only;rw [hb,hbl]⟩
   ·dsimp only;omega
  ·have hu2 : cZ p.types (aB p) f.Af l i = true := by assumption
   have hW := (fY w.nx ha).2 ((hF0.g i hin).1 (by assumption))
   have hb := pO (W := cO (aB p) a) (U := cZ p.types (aB p) f.Af l) hu2 hW (by rw [bT] at *; omega)
   (refine bC (i + 1,_) (Le.renA [(0,0)]) ?_ ?_)
   ·exact ⟨by dsimp only;omega,by dsimp only;rw [hb]; rfl⟩
   ·dsimp only;omega
  ·have hb := Bl (W := cO (aB p) a) (U := cZ p.types (aB p) f.Af l) (i := i) (by omega) (by rw [bT] at *; omega)
   (refine bC (i + 1,bl) (Le.renA [(0,0)]) ?_ ?_)
   ·exact ⟨by dsimp only;omega,by dsimp only;rw [hb,hbl]⟩
   ·dsimp only;omega
  ·have hu2 : cZ p.types (aB p) f.Af l i = true := by assumption
   have hW := (fY w.nx ha).2 ((hF0.g i hin).1 (by assumption))
   have hb := pO (W := cO (aB p) a) (U := cZ p.types (aB p) f.Af l) hu2 hW (by rw [bT] at *; omega)
   (refine bC (i + 1,_) (Le.renA [(0,0)]) ?_ ?_)
   ·exact ⟨by dsimp only;omega,by dsimp only;rw [hb]; rfl⟩
   ·dsimp only;omega
  ·have hb := tX (W := cO (aB p) a) (U := cZ p.types (aB p) f.Af l) (i := i) (.inr (Classical.byContradiction fun h => by have h2 := (hF0.g i hin).2 ((fY w.nx ha).1 h); rw [(by assumption : F0[i]! = false)] at h2; cases h2))
   (refine bC (i + 1,bl) (Le.renA [(0,0)]) ?_ ?_)
   ·exact ⟨by dsimp only;omega,by dsimp only;rw [hb,hbl]⟩
   ·dsimp only;omega
 ·have hin2 : (aB p).length = i := by omega
  repeat' (first|refine aC ?_|(refine aJ ?_ ?_ <;> intro hc hq <;> try (exfalso;omega))|fail)
  ·exact aI rfl ⟨by rw [hin2,if_neg (by omega)]; rfl,rfl⟩
  ·have hla := EV w.nx ha hbl (by omega)
   refine aI rfl ⟨?_,rfl⟩
   rw [hla.1,hin2,if_pos hla.2]; rfl
def FX (x : Iss) (L : List Iss) : Int := match L.findIdx? (Ep x) with | some i => i | none => -1
theorem Js (L:List Iss) (x:Iss) (hl:L.length ≤ 1048576):PC Tryz.prog 110 [sl fM L,fU x] (fun r => r = iv (FX x L)):=by
 refine aD Tryz.func110 Tryz.ntmps110 ?_
 repeat' (first|refine aC ?_|fail)
 refine aH (σ := Nat) [0,3,7] [0] (fun k => [(8,iv (k : Int))]) (fun k => []) (fun k => k ≤ L.length ∧ ∀ j,j < k → Ep x L[j]! = false) (fun k => L.length - k) (0) ⟨by omega,by omega⟩ ?_
 intro k ⟨hk,hall⟩
 have heq : (x.point == L[k]!.point && (x.kind == L[k]!.kind && x.with_ == L[k]!.with_)) = Ep x L[k]! := rfl
 by_cases hkn : k < L.length
 ·cases hb : Ep x L[k]!
  ·rw [hb] at heq
   repeat' (first|(apply aF;(apply tM;rfl;rfl;(rw [heq]; rfl);rfl))|refine aC ?_|(refine aJ ?_ ?_ <;> intro hc hq <;> try (exfalso;omega))|refine cC ?_|fail)
   (refine bC (k + 1) (Le.renA [(0,0)]) ?_ ?_)
   ·refine ⟨by omega, fun j hj => ?_⟩
    by_cases e : j = k
    ·subst e;exact hb
    ·exact hall j (by omega)
   ·omega
  ·rw [hb] at heq
   repeat' (first|(apply aF;(apply tM;rfl;rfl;(rw [heq]; rfl);rfl))|refine aC ?_|(refine aJ ?_ ?_ <;> intro hc hq <;> try (exfalso;omega))|refine cC ?_|fail)
   refine aI rfl ⟨?_,rfl⟩
   have : L.findIdx? (Ep x) = some k := by
    rw [List.findIdx?_eq_some_iff_getElem]
    refine ⟨hkn,by rw [← aW L k hkn]; exact hb,fun j hj => ?_⟩
    have := hall j hj;rw [aW L j (by omega)] at this;rw [this]; decide
   simp only [FX,this]; rfl
 ·repeat' (first | refine aC ?_ | (refine aJ ?_ ?_ <;> intro hc hq <;> try (exfalso; omega))|fail)
  refine aI rfl ⟨?_,rfl⟩
  have : L.findIdx? (Ep x) = none := by
   rw [List.findIdx?_eq_none_iff]
   intro y hy
   obtain ⟨j,hj,rfl⟩ := List.getElem_of_mem hy
   have := hall j (by omega);rw [aW L j hj] at this;exact this
  simp only [FX,this]; rfl
theorem GI (x:Iss) (L:List Iss):decide (0 ≤ FX x L) = decide (x ∈ L):=by
 unfold FX
 split
 ·rename_i i h
  obtain ⟨h1,h2,_⟩ := List.findIdx?_eq_some_iff_getElem.1 h
  rw [decide_eq_true (by rw [(pR _ _).1 h2]; exact List.getElem_mem h1 : x ∈ L)]; simp
 ·rename_i h
  rw [List.findIdx?_eq_none_iff] at h
  have : ¬ x ∈ L := fun hx => by have := h x hx;rw [(pR x x).2 rfl] at this;cases this
  rw [decide_eq_false this]; rfl
theorem fP (L:List Iss) (x:Iss) (hl:L.length ≤ 1048576):PC Tryz.prog 67 [sl fM L,fU x] (fun r => r = bv (decide (x ∈ L))):=by
 have hi := Js L x hl
 refine aD Tryz.func67 Tryz.ntmps67 ?_
 repeat' (first|(apply aF;(apply aA (k := 110);rfl;exact hi;exact Pur.pf;rfl))|refine aC ?_|fail)
 refine aI rfl ⟨?_,rfl⟩
 exact congrArg bv (GI x L)
theorem kD (p:Prg) (L:List Iss) (x:Iss) (hC:PC Tryz.prog 88 [cA p] (fun r => r = sl fM L)) (hl:L.length ≤ 1048576):PC Tryz.prog 61 [cA p,fU x] (fun r => r = bv (decide (x ∈ L))):=by
 refine aD Tryz.func61 Tryz.ntmps61 ?_
 repeat' (first|(apply aF;(apply aA (k := 88);rfl;exact hC;exact Pur.pf;rfl))|refine aC ?_|fail)
 refine aH (σ := Nat) [3,5] [0,1] (fun k => [(6,iv (k : Int))]) (fun k => []) (fun k => k ≤ L.length ∧ ∀ j,j < k → Ep L[j]! x = false) (fun k => L.length - k) (0) ⟨by omega,by omega⟩ ?_
 intro k ⟨hk,hall⟩
 have heq : (L[k]!.point == x.point && (L[k]!.kind == x.kind && L[k]!.with_ == x.with_)) = Ep L[k]! x := rfl
 by_cases hkn : k < L.length
 ·cases hb : Ep L[k]! x
  ·rw [hb] at heq
   repeat' (first|(apply aF;(apply tM;rfl;rfl;(rw [heq]; rfl);rfl))|refine aC ?_|(refine aJ ?_ ?_ <;> intro hc hq <;> try (exfalso;omega))|refine cC ?_|fail)
   (refine bC (k + 1) (Le.renA [(0,0),(1,1)]) ?_ ?_)
   ·refine ⟨by omega, fun j hj => ?_⟩
    by_cases e : j = k
    ·subst e;exact hb
    ·exact hall j (by omega)
   ·omega
  ·rw [hb] at heq
   repeat' (first|(apply aF;(apply tM;rfl;rfl;(rw [heq]; rfl);rfl))|refine aC ?_|(refine aJ ?_ ?_ <;> intro hc hq <;> try (exfalso;omega))|refine cC ?_|fail)
   refine aI rfl ⟨?_,rfl⟩
   rw [decide_eq_true (by have := aZ L k hkn;rw [(pR _ _).1 hb] at this;exact this : x ∈ L)]; rfl
 ·repeat' (first | refine aC ?_ | (refine aJ ?_ ?_ <;> intro hc hq <;> try (exfalso; omega))|fail)
  refine aI rfl ⟨?_,rfl⟩
  rw [decide_eq_false (fun h => by
   obtain ⟨j,hj,e⟩ := List.getElem_of_mem h
   have := hall j (by omega)
   rw [aW L j hj,e,(pR x x).2 rfl] at this;cases this)]; rfl
theorem m9 (ts:List Int) (bd:List AL.Stmt) (pts:List Pnt) (t:Nat) (w:WG ts pts) (hr:Rch pts) (ht:t < pts.length):PC Tryz.prog 69 [aG ts bd pts,iv (t:Int)] (fun r => r = .tup [sl cI (dT (l3 pts t)),bv true]):=by
 have h0 := w.p0
 by_cases hz : t = 0
 ·subst hz
  refine aD Tryz.func69 Tryz.ntmps69 ?_
  repeat' (first|(apply aF;(apply aL (t := _);rfl;rfl;rfl;exact (rfl:_=some [_]);rfl;rfl))|refine aC ?_|fail)
  all_goals first|exact aI rfl ⟨rfl,(by (rfl))⟩|exact absurd trivial (by assumption : ¬ True)
 ·have hsw := cY ts bd pts 0 t w h0 ht
  rw [decide_eq_true ((eM w.nx h0 t).2 (hr.wy t t (Nat.le_refl _) (by omega) ht))] at hsw
  have e : l3 pts t = cO pts 0 t := if_neg hz
  rw [← e] at hsw
  refine aD Tryz.func69 Tryz.ntmps69 ?_
  repeat' (first|(apply aF;(apply aA (k := 71);rfl;exact hsw;exact Pur.pf;rfl))|refine aC ?_|(refine aJ ?_ ?_ <;> intro hc hq <;> try (exfalso;omega))|fail)
  exact aI rfl ⟨rfl,(by exact Pur.pf)⟩
theorem pD (ts:List Int) (pts:List Pnt) (t:Nat) (w:WG ts pts) (ht:t < pts.length):PC Tryz.prog 62 [sl bK pts,iv (t:Int)] (fun r => r = sl cI (dT (l3 pts t))):=by
 have h0 := w.p0
 by_cases hz : t = 0
 ·subst hz
  refine aD Tryz.func62 Tryz.ntmps62 ?_
  repeat' (first|(apply aF;(apply aL (t := _);rfl;rfl;rfl;exact (rfl:_=some [_]);rfl;rfl))|refine aC ?_|fail)
  all_goals first|exact aI rfl ⟨rfl,(by (rfl))⟩|exact absurd trivial (by assumption : ¬ True)
 ·have hsw := iV ts pts 0 t w h0 ht
  have e : l3 pts t = cO pts 0 t := if_neg hz
  rw [← e] at hsw
  refine aD Tryz.func62 Tryz.ntmps62 ?_
  repeat' (first|(apply aF;(apply aA (k := 63);rfl;exact hsw;exact Pur.pf;rfl))|refine aC ?_|(refine aJ ?_ ?_ <;> intro hc hq <;> try (exfalso;omega))|fail)
  exact aI rfl ⟨rfl,(by (exact a8 _ _))⟩
theorem sX (a b:List Int) (ha:a.length ≤ 1000) (hb:b.length ≤ 1000) (h1:0 < b.length):PC Tryz.prog 65 [sl cI a,sl cI b] (fun r => r = sl cI (a ++ b.drop 1)):=by
 have htl : (List.take (b.length - Int.toNat 1) (List.drop (Int.toNat 1) b)).length = b.length - 1 := by
  show (List.take (b.length - 1) (List.drop 1 b)).length = _
  rw [List.length_take,List.length_drop]; omega
 refine aD Tryz.func65 Tryz.ntmps65 ?_
 repeat' (first|(apply aF;(apply cD;rfl;rfl;rfl;rfl;rfl;(case hl => first|(rw [aK]; omega)|(simp [aK]; done));(exact oN (by (rfl)));omega;omega;(exact kP (by (omega)));rfl;rfl))|refine aC ?_|refine cC ?_|fail)
 refine bF (Le.frzD (d := 4) (i := 2) rfl rfl) ?_
 refine aI rfl ⟨?_,(by (exact a8 _ _))⟩
 have e : List.take (b.length - Int.toNat 1) (List.drop (Int.toNat 1) b) = b.drop 1 := by
  show List.take (b.length - 1) (List.drop 1 b) = _
  exact List.take_of_length_le (by rw [List.length_drop]; omega)
 rw [e]
 simp only [aN,sl,List.length_append,Nat.zero_add]
theorem Hv (p:Prg) (x:Iss) (hv:bR p = false) (hl:p.types.length ≤ 1048576) (hs:aM p.body ≤ 1048576):PC Tryz.prog 23 [cA p,fU x] (fun r => r = .tup [sl cI [],bv false]):=by
 have hg := cR p hl hs
 rw [if_neg (by simp [hv])] at hg
 refine aD Tryz.func23 Tryz.ntmps23 ?_
 repeat' (first|(apply aF;(apply aA (k := 66);rfl;exact hg;exact Pur.pf;rfl))|refine aC ?_|refine cC ?_|fail)
 (refine bF (Le.nilImm (d := 4) rfl) ?_; refine aI rfl ?_)
 exact ⟨rfl,rfl⟩
theorem GH (p:Prg) (f:Flows p.types (aB p)) (x:Iss) (hv:bR p = true) (hx:x ∉ f.iss) (hl:p.types.length ≤ 1048576) (hs:aM p.body ≤ 1048576):PC Tryz.prog 23 [cA p,fU x] (fun r => r = .tup [sl cI [],bv false]):=by
 have w := WG.of_valid hv
 have hg := cR p hl hs
 rw [if_pos hv] at hg
 have hi := dN p.types p.body (aB p) w f
 have hc := fP f.iss x (Nat.le_trans (dV w f) (by decide))
 rw [decide_eq_false hx] at hc
 refine aD Tryz.func23 Tryz.ntmps23 ?_
 repeat' (first|(apply aF;first|(apply aA (k := 66);rfl;exact hg;exact Pur.pf;rfl)|(apply aA (k := 68);rfl;exact hi;exact Pur.pf;rfl)|(apply aA (k := 67);rfl;exact hc;exact Pur.pf;rfl))|refine aC ?_|refine cC ?_|fail)
 (refine bF (Le.nilImm (d := 4) rfl) ?_; refine aI rfl ?_)
 exact ⟨rfl,rfl⟩
theorem HV (p:Prg) (f:Flows p.types (aB p)) (a:Nat) (k wi:Int) (hk:k = 1) (ha:a < (aB p).length) (hv:bR p = true) (hx:(⟨(a:Int),k,wi⟩:Iss) ∈ f.iss) (hl:p.types.length ≤ 1048576) (hs:aM p.body ≤ 1048576) :
  PC Tryz.prog 23 [cA p,fU ⟨(a : Int),k,wi⟩] (fun r => r = .tup [sl cI (dT (l3 (aB p) a)),bv true]) := by
 have w := WG.of_valid hv
 have hg := cR p hl hs
 rw [if_pos hv] at hg
 have hi := dN p.types p.body (aB p) w f
 have hc := fP f.iss ⟨(a : Int),k,wi⟩ (Nat.le_trans (dV w f) (by decide))
 rw [decide_eq_true hx] at hc
 have hb := m9 p.types p.body (aB p) a w (Rch.of p) ha
 subst hk
 refine aD Tryz.func23 Tryz.ntmps23 ?_
 repeat' (first|(apply aF;first|(apply aA (k := 66);rfl;exact hg;exact Pur.pf;rfl)|(apply aA (k := 68);rfl;exact hi;exact Pur.pf;rfl)|(apply aA (k := 67);rfl;exact hc;exact Pur.pf;rfl)|(apply aA (k := 69);rfl;exact hb;exact Pur.pf;rfl))|refine aC ?_|refine cC ?_|fail)
 all_goals first|exact aI rfl ⟨rfl,(by exact Pur.pf)⟩
theorem G4 (p:Prg) (f:Flows p.types (aB p)) (a l:Nat) (k:Int) (hk:k ≠ 1) (ha:a < (aB p).length) (hll:l < (aB p).length) (hv:bR p = true) (hx:(⟨(a:Int),k,(l:Int)⟩:Iss) ∈ f.iss) (hl:p.types.length ≤ 1048576) (hs:aM p.body ≤ 1048576) (u:Nat)
  (hu : (gR (cO (aB p) a) (cZ p.types (aB p) f.Af l) (aB p).length).1 = (u : Int)) (hun : u < (aB p).length) (h2 : cO (aB p) l a ≠ []) (h3 : cO (aB p) a u ≠ []) :
  PC Tryz.prog 23 [cA p,fU ⟨(a : Int),k,(l : Int)⟩] (fun r => r = .tup [sl cI (dT (l3 (aB p) l) ++ (dT (cO (aB p) l a)).drop 1 ++ (dT (cO (aB p) a u)).drop 1),bv true]) := by
 have w := WG.of_valid hv
 have hg := cR p hl hs
 rw [if_pos hv] at hg
 have hi := dN p.types p.body (aB p) w f
 have hc := fP f.iss ⟨(a : Int),k,(l : Int)⟩ (Nat.le_trans (dV w f) (by decide))
 rw [decide_eq_true hx] at hc
 have hua := fJ p.types p.body (aB p) f w a l ha hll
 rw [hu,decide_eq_true (by omega)] at hua
 have hb := m9 p.types p.body (aB p) l w (Rch.of p) hll
 have hs1 := cY p.types p.body (aB p) l a w hll ha
 rw [decide_eq_true ((eM w.nx hll a).2 ((fY w.nx hll).1 h2))] at hs1
 have hs2 := cY p.types p.body (aB p) a u w ha hun
 rw [decide_eq_true ((eM w.nx ha u).2 ((fY w.nx ha).1 h3))] at hs2
 have hl1 := eP (x := a) w.nx hll
 have hl2 := eP (x := u) w.nx ha
 have hl0 := nF w.nx w.p0 l
 have hpl := w.pl
 rw [← bT] at hl0 hl1 hl2
 have hp1 : 0 < (dT (cO (aB p) l a)).length := by rw [bT]; exact List.length_pos_iff.2 h2
 have hp2 : 0 < (dT (cO (aB p) a u)).length := by rw [bT]; exact List.length_pos_iff.2 h3
 generalize dT (l3 (aB p) l) = A at *
 generalize dT (cO (aB p) l a) = B at *
 generalize dT (cO (aB p) a u) = D at *
 have hco := Fp [A,List.take (B.length - Int.toNat 1) (List.drop (Int.toNat 1) B),List.take (D.length - Int.toNat 1) (List.drop (Int.toNat 1) D)] (by simp) (by simp;omega)
 refine aD Tryz.func23 Tryz.ntmps23 ?_
 repeat' (first|(apply aF;first|(apply j5 (t := 146);rfl;rfl;rfl;exact (rfl:_=some [_,_,_]);rfl;rfl)|(apply aA (k := 66);rfl;exact hg;exact Pur.pf;rfl)|(apply aA (k := 68);rfl;exact hi;exact Pur.pf;rfl)|(apply aA (k := 67);rfl;exact hc;exact Pur.pf;rfl)|(apply aA (k := 70);rfl;exact hua;exact Pur.pf;rfl)|(apply aA (k := 69);rfl;exact hb;exact Pur.pf;rfl)|(apply aA (k := 71);rfl;exact hs1;exact Pur.pf;rfl)|(apply aA (k := 71);rfl;exact hs2;exact Pur.pf;rfl)|(apply aA (k := 72);rfl;exact hco;exact Pur.pf;rfl))|refine aC ?_|(refine aJ ?_ ?_ <;> intro hc hq <;> try (exfalso;omega))|refine cC ?_|fail)
 refine aI rfl ⟨?_,(by exact Pur.pf)⟩
 have eB : List.take (B.length - Int.toNat 1) (List.drop (Int.toNat 1) B) = B.drop 1 := by
  show List.take (B.length - 1) (List.drop 1 B) = _
  exact List.take_of_length_le (by rw [List.length_drop]; omega)
 have eD : List.take (D.length - Int.toNat 1) (List.drop (Int.toNat 1) D) = D.drop 1 := by
  show List.take (D.length - 1) (List.drop 1 D) = _
  exact List.take_of_length_le (by rw [List.length_drop]; omega)
 rw [eB,eD]
 simp [aN]
theorem Hi (p:Prg) (f:Flows p.types (aB p)) (a l:Nat) (k:Int) (hk:k ≠ 1) (ha:a < (aB p).length) (hll:l < (aB p).length) (hv:bR p = true) (hx:(⟨(a:Int),k,(l:Int)⟩:Iss) ∈ f.iss) (hl:p.types.length ≤ 1048576) (hs:aM p.body ≤ 1048576)
  (hu : (gR (cO (aB p) a) (cZ p.types (aB p) f.Af l) (aB p).length).1 < 0) :
  PC Tryz.prog 23 [cA p,fU ⟨(a : Int),k,(l : Int)⟩] (fun r => r = .tup [sl cI [],bv false]) := by
 have w := WG.of_valid hv
 have hg := cR p hl hs
 rw [if_pos hv] at hg
 have hi := dN p.types p.body (aB p) w f
 have hc := fP f.iss ⟨(a : Int),k,(l : Int)⟩ (Nat.le_trans (dV w f) (by decide))
 rw [decide_eq_true hx] at hc
 have hua := fJ p.types p.body (aB p) f w a l ha hll
 rw [decide_eq_false (by omega : ¬ 0 ≤ (gR (cO (aB p) a) (cZ p.types (aB p) f.Af l) (aB p).length).1)] at hua
 refine aD Tryz.func23 Tryz.ntmps23 ?_
 repeat' (first|(apply aF;first|(apply aA (k := 66);rfl;exact hg;exact Pur.pf;rfl)|(apply aA (k := 68);rfl;exact hi;exact Pur.pf;rfl)|(apply aA (k := 67);rfl;exact hc;exact Pur.pf;rfl)|(apply aA (k := 70);rfl;exact hua;exact Pur.pf;rfl))|refine aC ?_|(refine aJ ?_ ?_ <;> intro hc hq <;> try (exfalso;omega))|refine cC ?_|fail)
 (refine bF (Le.nilImm (d := 4) rfl) ?_; refine aI rfl ?_)
 exact ⟨rfl,rfl⟩
theorem HA (p:Prg) (f:Flows p.types (aB p)) (a l:Nat) (k:Int) (hk:k ≠ 1) (ha:a < (aB p).length) (hll:l < (aB p).length) (hv:bR p = true) (hx:(⟨(a:Int),k,(l:Int)⟩:Iss) ∈ f.iss) (hl:p.types.length ≤ 1048576) (hs:aM p.body ≤ 1048576) (u:Nat)
  (hu : (gR (cO (aB p) a) (cZ p.types (aB p) f.Af l) (aB p).length).1 = (u : Int)) (hun : u < (aB p).length) (h2 : ¬ Wy (aB p) l a) :
  PC Tryz.prog 23 [cA p,fU ⟨(a : Int),k,(l : Int)⟩] (fun r => r = .tup [sl cI [],bv false]) := by
 have w := WG.of_valid hv
 have hg := cR p hl hs
 rw [if_pos hv] at hg
 have hi := dN p.types p.body (aB p) w f
 have hc := fP f.iss ⟨(a : Int),k,(l : Int)⟩ (Nat.le_trans (dV w f) (by decide))
 rw [decide_eq_true hx] at hc
 have hua := fJ p.types p.body (aB p) f w a l ha hll
 rw [hu,decide_eq_true (by omega)] at hua
 have hb := m9 p.types p.body (aB p) l w (Rch.of p) hll
 have hs1 := cY p.types p.body (aB p) l a w hll ha
 rw [decide_eq_false (fun h => h2 ((eM w.nx hll a).1 h))] at hs1
 have hs2 := cY p.types p.body (aB p) a u w ha hun
 refine aD Tryz.func23 Tryz.ntmps23 ?_
 repeat' (first|(apply aF;first|(apply aA (k := 66);rfl;exact hg;exact Pur.pf;rfl)|(apply aA (k := 68);rfl;exact hi;exact Pur.pf;rfl)|(apply aA (k := 67);rfl;exact hc;exact Pur.pf;rfl)|(apply aA (k := 70);rfl;exact hua;exact Pur.pf;rfl)|(apply aA (k := 69);rfl;exact hb;exact Pur.pf;rfl)|(apply aA (k := 71);rfl;exact hs1;exact Pur.pf;rfl)|(apply aA (k := 71);rfl;exact hs2;exact Pur.pf;rfl))|refine aC ?_|(refine aJ ?_ ?_ <;> intro hc hq <;> try (exfalso;omega))|refine cC ?_|fail)
 (refine bF (Le.nilImm (d := 4) rfl) ?_; refine aI rfl ?_)
 exact ⟨rfl,rfl⟩
end Go.Proofs.YtgkalkgplcdnkaaGreat
