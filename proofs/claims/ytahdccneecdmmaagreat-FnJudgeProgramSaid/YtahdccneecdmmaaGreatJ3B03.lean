/-
 A part of the proofs over this program: rules and contracts of its functions (the contracts).
-/
import Derived.Test.YtahdccneecdmmaaGreatJ3B02
set_option linter.unusedVariables false
set_option linter.unusedSimpArgs false
set_option maxHeartbeats 8000000
set_option maxRecDepth 4000
attribute [local irreducible] Go.AL.RW Go.AL.AW Go.AL.Stop
namespace Go.Proofs.YtahdccneecdmmaaGreat
open Go.AL Go.RowKit
variable {N : Nat} {Q : Exit → AS → Prop} {all : Array Oper} {rest : List Oper} {tsl : List (Nat × AV)} {hsl : List (Nat × Option (List AV))} {nidl : Nat} {z0 : Lo} {md : Md} {d : Nat} {ty : TypeId} {pos : String} {af : Array Edge} {tys : Array TypeId}
def Hu (nv N : Nat) (i : Nat) : List AV := [.imm nv (flat (Ak (i * (nv + 1)) N) (List.range nv)),.own (i * (nv + 1) + nv + aX) 0 N 1]
instance (nv N : Nat) : FlT (Hu nv N) 2:=⟨fun _ => rfl⟩
instance (nv N : Nat) : FE (Hu nv N) (fun i => [.imm nv (flat (Ak (i * (nv + 1)) N) (List.range nv)),.own (i * (nv + 1) + nv + aX) 0 N 1]):=⟨fun _ => rfl⟩
theorem rT {m:List (Nat × Nat)}{lo:Lo}{pn:Option Nat}{nv N k M:Nat}(hk:k ≤ M) (h:lo.fb = aX + M * (nv + 1)):RnL (j8 m lo pn) (flat (Hu nv N) (List.range k)) (flat (Hu nv N) (List.range k)) :=
 RnL.flt fun i hi => by
  rw [List.mem_range] at hi
  have h1 : i * (nv + 1) + nv < M * (nv + 1) := iA (by omega) (by omega)
  exact .cons (.imm (cX (by rw [h]; omega))) (.cons (.own (iN (by omega) (by rw [h]; omega))) .nil)
theorem Jb {m:List (Nat × Nat)}{lo:Lo}{pn:Option Nat}{nv N k:Nat}(h:lo.fb = aX + (k + 1) * (nv + 1)):RnL (j8 m lo pn) (flat (Hu nv N) (List.range (k + 1))) (((flat (Hu nv N) (List.range k)).drop 0).take (k * 2) ++ Hu nv N k):=by
 have e : ((flat (Hu nv N) (List.range k)).drop 0).take (k * 2) = flat (Hu nv N) (List.range k) := List.take_of_length_le (by rw [List.drop_zero,aI (Hu nv N) (e := 2)]; simp)
 have := rT (m := m) (pn := pn) (N := N) (Nat.le_refl (k + 1)) h
 rw [e]
 rw [List.range_succ,← cP,mJ] at this ⊢
 exact this
def QI (s : List (List Bool) × List Bool) : List AV := [sl gQ s.1,sl cB s.2]
instance : FlT QI 2:=⟨fun _ => rfl⟩
instance : FE QI (fun s => [sl gQ s.1,sl cB s.2]):=⟨fun _ => rfl⟩
theorem NN {D:List Nat}{hs:List (Nat × Option (List AV))}{R:List (List Bool)}{nv N M n:Nat}(hF:FamR R R hs hs) (hD:∀ k,k < nv + 1 → n * (nv + 1) + k + aX ∈ D) (hlo:R.length = M * (nv + 1)) (hn:n < M) (hro:∀ q,q < R.length → R[q]!.length = N) :
  LdL D (aU hs) (Hu nv N n) [sl gQ (kX nv R n),sl cB (lG nv R n)] := by
 have h1 : n * (nv + 1) + nv < M * (nv + 1) := iA hn (by omega)
 have h2 : (kX nv R n).length = nv := uA hlo hn
 have h3 : (lG nv R n).length = N := hro _ (by omega)
 have e1 : sl gQ (kX nv R n) = .imm nv (flat gQ ((R.drop (n * (nv + 1))).take nv)) := by unfold sl;rw [h2]; rfl
 have e2 : sl cB (lG nv R n) = .imm N (flat cB (lG nv R n)) := by unfold sl;rw [h3]
 rw [e1,e2]
 exact .cons (.imm (LdL.rows hF (fun k hk => hD k (by omega)) (by omega) (fun k hk => hro _ (by omega)))) (.cons (.own (hD nv (by omega)) (hF.get (by omega)) (.pur (inferInstance : Pur (flat cB _)).pf)) .nil)
def Ma (b : Nat) : List Nat := [b + 0 + aX,b + 1 + aX,b + 2 + aX,b + 3 + aX,b + 4 + aX,b + 5 + aX,b + 6 + aX]
theorem Ca {b k:Nat}(h:k < 7):b + k + aX ∈ Ma b:=by
 unfold Ma
 match k,h with
 | 0,_ => simp
 | 1,_ => simp
 | 2,_ => simp
 | 3,_ => simp
 | 4,_ => simp
 | 5,_ => simp
 | 6,_ => simp
theorem wC {nv N n k:Nat}{R:List (List Bool)}(hlo:R.length = N * (nv + 1)) (hn:n < N) (hk:k < nv + 1):((R.drop (n * (nv + 1))).take (nv + 1))[k]! = R[n * (nv + 1) + k]!:=by
 have h1 := iA hn hk
 have h2 : n * (nv + 1) + nv < N * (nv + 1) := iA hn (by omega)
 rw [bC _ _ (by rw [List.length_take,List.length_drop]; omega),bC _ _ (by omega),List.getElem_take,List.getElem_drop]
theorem lD {nv N n:Nat}{R:List (List Bool)}(hlo:R.length = N * (nv + 1)) (hn:n < N):((R.drop (n * (nv + 1))).take (nv + 1)).length = nv + 1:=by
 have h2 : n * (nv + 1) + nv < N * (nv + 1) := iA hn (by omega)
 rw [List.length_take,List.length_drop]; omega
theorem Hm (ts:List Int) (pts:List Pnt) (w:WG ts pts) (i:Nat) (hi:i < pts.length) (R:List (List Bool)) (h:FSd ts pts R) :
  Qo Tryz.prog 223 [sl cI ts,sl cM pts,iv (i : Int),O9 0 ts.length pts.length] ((R.drop (i * (ts.length + 1))).take (ts.length + 1)) (.agg [sl gQ (rE ts pts i (kX ts.length R i)),sl cB (rD ts pts i (lG ts.length R i))]) [] := by
 have h1 := FJ ts pts w i hi ((R.drop (i * (ts.length + 1))).take (ts.length + 1)) (lD h.lo hi) (fun k hk => by rw [wC h.lo hi hk]; exact h.ro _ (by rw [h.lo]; exact iA hi hk))
 rw [wC h.lo hi (by omega),List.take_take,show min ts.length (ts.length + 1) = ts.length from by omega] at h1
 exact h1
theorem EO {ts:List Int}{pts:List Pnt}(w:WG ts pts){R:List (List Bool)}(h:FSd ts pts R){i v:Nat}(hi:i < pts.length) (hv:v < ts.length):(rE ts pts i (kX ts.length R i))[v]!.length = pts.length:=by
 rw [lR _ _ _ _ _ hv]
 split
 ·exact jX _ _ _ _
 ·split
  ·simp
  ·rw [iJ h.lo hi hv]; exact h.ro _ (by rw [h.lo]; exact iA hi (by omega))
theorem wR {b:List Bool}{R:List (List Bool)}{k m:Nat}{x0 x1:Operand}(ha0:ev (lk tsl) x0 = some (.own (k + aX) 0 m 1)) (ha1:ev (lk tsl) x1 = some (sl cB b))
  (hF : FamR R R hsl hsl) (hk : k < R.length) (hm : m = R[k]!.length) (hab : b.length ≤ R[k]!.length) (hl : R[k]!.length ≤ 1000000) (hM : Nat.ble (nidl + 0) aX = true) (hN : Nat.blt d N = true) {md' : Md} [hmd : MdA md (fP [x0,x1] ++ [.inr (k + aX)]) [.inr (k + aX),.inl d] md']
  (kk : RW Tryz.prog N all Q md' rest ⟨(d,.tup []) :: tsl,(k + aX,some (flat cB (gO R[k]! b))) :: hsl,nidl + 0,z0⟩) : RW Tryz.prog N all Q md (⟨some d,.call ⟨.value (.func 225),#[x0,x1],tys⟩,ty,pos,af,none⟩ :: rest) ⟨tsl,hsl,nidl,z0⟩ :=
 CH (a := R[k]!) (b := b) (i0 := k + aX) ha0 ha1 (hF.get hk) (ET R[k]! b m hm hab hl) hM hN (md' := md') (hmd := hmd) kk
theorem uK (p:Prg) (Af Ap:List Nat) (hs:aT p.body ≤ 1000000) (w:WG p.types (aB p)) (hAf:qX p.types (aB p) Af) (hAp:oK p.types (aB p) Ap):PC Tryz.prog 171 [b8 p] (fun r => r = sl QI ((List.range (aB p).length).map (e7 p.types.length (aB p).length Af Ap))):=by
 have hpl := w.pl
 have hp0 := w.p0
 have htl := w.tl
 refine aC Tryz.func171 Tryz.ntmps171 ?_
 repeat' (first|(apply aF;(apply aA (k := 132);rfl;exact dP p hs;exact Pur.pf;rfl))|refine aE ?_|fail)
 refine dM (σ := Nat) (fun k => List.replicate ((p.types.length + 1) * k) (List.replicate (aB p).length false)) [1,3] [0] (fun k => [(5,iv (k : Int)),(4,.own 1 0 k 2)]) (fun k => [(1,some (flat (Hu p.types.length (aB p).length) (List.range k)))]) (fun k => k ≤ (aB p).length) (fun k => (aB p).length - k) (0) (Nat.zero_le _) ?_
 intro k hk
 try dsimp only
 repeat' (first|(apply aF;first|(with_reducible apply aY (d := 27))|(with_reducible apply aY (d := 6)))|refine aE ?_|(refine aK ?_ ?_ <;> intro hc hq <;> try (exfalso;omega))|fail)
 ·have hrep : List.replicate ((p.types.length + 1) * k) (List.replicate (aB p).length false) ++ List.replicate (p.types.length + 1) (List.replicate (aB p).length false) = List.replicate ((p.types.length + 1) * (k + 1)) (List.replicate (aB p).length false) := by
   rw [List.replicate_append_replicate,Nat.mul_succ]
  refine bZ ?_
  have hst := Hp p.types.length (aB p).length htl hpl
  apply KP (R := List.replicate ((p.types.length + 1) * k) (List.replicate (aB p).length false)) (avs := [iv (p.types.length : Int),iv ((aB p).length : Int)]) (rr' := O9 (k * (p.types.length + 1)) p.types.length (aB p).length) (h := hst)
  case ha => rfl
  case hp => rfl
  case hF => (repeat' (first|exact FamR.here|(apply FamR.cons;focus rfl)))
  case hz => rfl
  case hM => rfl
  case hN => rfl
  case hr =>
   refine .agg (.cons (.imm (rn_rows fun j hj => ?_)) (.cons (.own ?_) .nil))
   ·rw [if_pos (by rw [List.length_replicate]; omega)]; congr 1;rw [List.length_replicate,Nat.mul_comm]; omega
   ·rw [if_pos (by rw [List.length_replicate]; omega)]; congr 1;rw [List.length_replicate,Nat.mul_comm]; omega
  rw [hrep]
  repeat' (first|(apply aF;(apply bX;rfl;rfl;rfl;rfl;rfl;(case hl => (simp [aI]; done));(rfl);omega;omega;(rfl);rfl;rfl))|refine aE ?_|fail)
  (apply bE (k + 1);focus (refine Le.renF0 [(0,0),(1,3)] (R := ?qA1) (hF := ?qF1) (hz := ?qz1) (hm := ?qm1) (hn := ?qn1) (h1 := ?q11) (h2 := ?q21);(case qF1 => (repeat' (first|exact FamR.here|(apply FamR.cons;focus rfl))));(case qz1 => (rfl));(case qm1 => rfl);(case qn1 => decide);all_goals (repeat' (first|exact trivial|refine And.intro ⟨_,rfl,?_⟩ ?_|refine And.intro ⟨_,_,rfl,rfl,?_⟩ ?_|exact RnL.purI inferInstance|exact RnV.purI inferInstance|exact RnV.own rfl|exact RnV.optr rfl|exact Jb (by show aX + (List.replicate ((p.types.length + 1) * (k + 1)) (List.replicate (aB p).length false)).length = _; rw [List.length_replicate,Nat.mul_comm])))))
  ·show k + 1 ≤ (aB p).length;omega
  ·show (aB p).length - (k + 1) < (aB p).length - k;omega
 ·have hkN : k = (aB p).length := by omega
  subst hkN
  refine bZ (c8 ?_ (Le.frzD (d := 4) (i := 1) rfl rfl))
  rw [Nat.mul_comm]
  repeat' (first|refine aE ?_|fail)
  refine dM (σ := List (List Bool) × Bool) (fun s => s.1) [1,3,4] [0] (fun s => [(6,bv s.2)]) (fun s => []) (fun s => FH p.types (aB p) s.1 s.2) (fun s => RB p.types (aB p) s.1 s.2) (List.replicate ((aB p).length * (p.types.length + 1)) (List.replicate (aB p).length false),true) (FH.init _ _) ?_
  rintro ⟨R,c⟩ hFH
  try dsimp only at hFH
  try dsimp only
  have hRl := hFH.d.lo
  have hRr := hFH.d.ro
  cases c with
  | false =>
   repeat' (first|refine aE ?_|fail)
   have hfin := hFH.final w hAf hAp
   refine aS (Le.frzAll (d := 2) (D := (List.range R.length).map fun k => k + aX) rfl (.imm (LdL.flt fun n hn => NN (R := R) (M := (aB p).length) (by (repeat' (first|exact FamR.here|(apply FamR.cons;focus rfl)))) (fun k hk => List.mem_map.2 ⟨n * (p.types.length + 1) + k,by rw [List.mem_range,hRl]; exact iA (List.mem_range.1 hn) hk,rfl⟩) hRl (List.mem_range.1 hn) hRr))) ?_
   refine aD rfl ⟨?_,(by (exact bB _ _))⟩
   simp only [aO]
   have e1 : (List.range (aB p).length).map (fun n => (kX p.types.length R n, lG p.types.length R n)) = (List.range (aB p).length).map (e7 p.types.length (aB p).length Af Ap) := List.map_congr_left fun n hn => by
    have := hfin n (List.mem_range.1 hn)
    rw [this.1,this.2]
   have e2 : flat (fun n => [sl gQ (kX p.types.length R n), sl cB (lG p.types.length R n)]) (List.range (aB p).length) = flat QI ((List.range (aB p).length).map (e7 p.types.length (aB p).length Af Ap)) := by
    rw [← e1,flat,flat,List.flatMap_map]; rfl
   rw [e2]
   simp only [sl,List.length_map,List.length_range]
  | true =>
   have hst := hFH.start
   repeat' (first|refine aE ?_|fail)
   refine dM (σ := Nat × List (List Bool) × Bool) (fun s => s.2.1) [1,3,4] [0] (fun s => [(6,bv s.2.2),(7,iv (s.1 : Int))]) (fun s => []) (fun s => s.1 ≤ (aB p).length ∧ FS p.types (aB p) R s.2.1 s.2.2 (DF s.1 0)) (fun s => (aB p).length - s.1) (0,R,false) ⟨Nat.zero_le _,hst⟩ ?_
   rintro ⟨j,R1,c1⟩ ⟨hj,hS1⟩
   dsimp only at hj hS1
   have hl1 := hS1.d.lo
   try dsimp only
   by_cases hjn : j < (aB p).length
   ·have hnl := w.nl j hjn
    repeat' (first|(apply aF;first|(apply Bl (k := 223) (R := R1) (avs0 := [sl cI p.types,sl cM (aB p),iv (j : Int),O9 0 p.types.length (aB p).length]) (b := j * (p.types.length + 1)) (n1 := 0) (D := Ma (j * (p.types.length + 1))) (ws := []) (h := Hm p.types (aB p) w j hjn R1 hS1.d) (rr' := .agg [sl gQ (rE p.types (aB p) j (kX p.types.length R1 j)),sl cB (rD p.types (aB p) j (lG p.types.length R1 j))]);(case ha => rfl);(case hF => (repeat' (first|exact FamR.here|(apply FamR.cons;focus rfl))));(case hb => (rw [lD hl1 hjn]; have := iA (v := p.types.length) hjn (Nat.lt_succ_self _);omega));(case hR => exact fun k hk => wC hl1 hjn (by rwa [lD hl1 hjn] at hk));(case hD => exact fun k hk => Ca (by rw [lD hl1 hjn] at hk;omega));(case har => exact .cons (RnV.purI inferInstance) (.cons (RnV.purI inferInstance) (.cons (RnV.purI inferInstance) (.cons (.agg (.cons (.imm (rn_rows fun k hk => (by rw [Nat.zero_add,oA (by rw [lD hl1 hjn]; omega)]))) (.cons (.own (by rw [Nat.zero_add,oA (by rw [lD hl1 hjn]; omega)])) .nil))) .nil))));(case hk => rfl);(case hr => exact RnV.purI inferInstance);(case hw => exact trivial);(case hM|hN => rfl))|(apply o7;rfl;rfl;(assumption);rfl;infer_instance;infer_instance;rfl)|(apply bF;rfl;rfl;rfl;rfl;rfl;(case hl => (simp;done));(exact (rfl:_=[_,_]))))|refine aE ?_|(refine aK ?_ ?_ <;> intro hc hq <;> try (exfalso;omega))|refine bQ ?_|fail)
    refine dM (σ := Nat × List (List Bool) × Bool) (fun s => s.2.1) [1,3,4,7,8] [0,2] (fun s => [(6,bv s.2.2),(9,iv (s.1 : Int))]) (fun s => []) (fun s => s.1 ≤ (aB p)[j]!.next.length ∧ FS p.types (aB p) R s.2.1 s.2.2 (DF j s.1) ∧ (s.2.2 = false → s.2.1 = R1)) (fun s => (aB p)[j]!.next.length - s.1) (0,R1,c1) ⟨Nat.zero_le _,hS1,fun _ => rfl⟩ ?_
    rintro ⟨kk,R2,c2⟩ ⟨hk,hS2,hc2⟩
    dsimp only at hk hS2 hc2
    have hl2 := hS2.d.lo
    have hr2 := hS2.d.ro
    try dsimp only
    by_cases hkn : kk < (aB p)[j]!.next.length
    ·have hnx := w.nx j hjn _ (aW _ _ hkn)
     have hnn : ((aB p)[j]!.next[kk]!).toNat < (aB p).length := by omega
     have hix : ((aB p)[j]!.next[kk]!).toNat * (p.types.length + 1) + p.types.length < R2.length := by rw [hl2]; exact iA hnn (by omega)
     have hrix := hr2 _ hix
     have hqa := dB p.types (aB p) j (lG p.types.length R1 j)
     have hw1 := DC (rE p.types (aB p) j (kX p.types.length R1 j)) (kX p.types.length R2 ((aB p)[j]!.next[kk]!).toNat) (rD p.types (aB p) j (lG p.types.length R1 j)) (lG p.types.length R2 ((aB p)[j]!.next[kk]!).toNat) (by rw [dB]; exact hpl) (by rw [eX]; exact htl)
      (by rw [dB]; exact hr2 _ (by rw [hl2]; exact iA hnn (by omega))) (by rw [eX]; exact uA hl2 hnn) (fun v hv => by rw [eX] at hv;rw [dB]; exact EO w hS1.d hjn hv) (fun v hv => by rw [eX] at hv;rw [dB,iJ hl2 hnn hv]; exact hr2 _ (by rw [hl2]; exact iA hnn (by omega)))
     repeat' (first|(apply aF;first|((with_reducible apply nF (k := 224) (D := Ma (((aB p)[j]!.next[kk]!).toNat * (p.types.length + 1))) (h := hw1));(case ha => rfl);(case hl => exact .cons (.pur (PurV.pf)) (.cons (.agg (NN (R := R2) (M := (aB p).length) (by (repeat' (first|exact FamR.here|(apply FamR.cons;focus rfl)))) (fun k hk => Ca (by omega)) hl2 hnn hr2)) .nil));(case hfr|hN => rfl))|(apply wR;rfl;rfl;(case hF => (repeat' (first|exact FamR.here|(apply FamR.cons;focus rfl))));omega;omega;omega;omega;rfl;rfl)|(with_reducible apply aY (d := 11))|(apply gH;rfl;rfl;(assumption);rfl;infer_instance;infer_instance;rfl))|refine aE ?_|(refine aK ?_ ?_ <;> intro hc hq <;> try (exfalso;omega))|refine bQ ?_|fail)
     ·refine bZ ?_
      apply c8
      case k =>
       apply Le.fset (R := R2) (hk := hix)
       (repeat' (first|exact FamR.here|(apply FamR.cons;focus rfl)))
      rw [Jr hix]
      repeat' (first|refine aE ?_|fail)
      refine dM (σ := Nat) (fun v => Cb R2 (((aB p)[j]!.next[kk]!).toNat * (p.types.length + 1)) p.types.length (rE p.types (aB p) j (kX p.types.length R1 j)) (rD p.types (aB p) j (lG p.types.length R1 j)) v) [1,3,4,7,8,9,10] [0,2] (fun v => [(11,iv (v : Int))]) (fun v => []) (fun v => v ≤ p.types.length) (fun v => p.types.length - v) (0) (Nat.zero_le _) ?_
      intro v hv
      try dsimp only
      have hjl := gB R2 (((aB p)[j]!.next[kk]!).toNat * (p.types.length + 1)) p.types.length (rE p.types (aB p) j (kX p.types.length R1 j)) (rD p.types (aB p) j (lG p.types.length R1 j)) v
      have hal := eX p.types (aB p) j (kX p.types.length R1 j)
      by_cases hvn : v < p.types.length
      ·have hav := EO w hS1.d hjn hvn
       have hjr : (Cb R2 (((aB p)[j]!.next[kk]!).toNat * (p.types.length + 1)) p.types.length (rE p.types (aB p) j (kX p.types.length R1 j)) (rD p.types (aB p) j (lG p.types.length R1 j)) v)[((aB p)[j]!.next[kk]!).toNat * (p.types.length + 1) + v]!.length = (aB p).length := by
        rw [gS _ _ _ _ _ _ _ (by omega),if_neg (by omega),if_neg (by omega)]; exact hr2 _ (by omega)
       repeat' (first|(apply aF;first|(apply wR;rfl;rfl;(case hF => (repeat' (first|exact FamR.here|(apply FamR.cons;focus rfl))));omega;omega;omega;omega;rfl;rfl)|(with_reducible apply aY (d := 84))|(apply o7;rfl;rfl;(assumption);rfl;infer_instance;infer_instance;rfl)|(apply gH;rfl;rfl;(assumption);rfl;infer_instance;infer_instance;rfl))|refine aE ?_|(refine aK ?_ ?_ <;> intro hc hq <;> try (exfalso;omega))|refine bQ ?_|fail)
       refine bZ ?_
       apply c8
       case k =>
        apply Le.fset (R := Cb R2 (((aB p)[j]!.next[kk]!).toNat * (p.types.length + 1)) p.types.length (rE p.types (aB p) j (kX p.types.length R1 j)) (rD p.types (aB p) j (lG p.types.length R1 j)) v) (hk := (by omega))
        (repeat' (first|exact FamR.here|(apply FamR.cons;focus rfl)))
       rw [JQ hix hvn]
       repeat' (first|refine aE ?_|fail)
       (apply bE (v + 1);focus (refine Le.renF0 [(0,0),(2,2)] (R := ?qA2) (hF := ?qF2) (hz := ?qz2) (hm := ?qm2) (hn := ?qn2) (h1 := ?q12) (h2 := ?q22);(case qF2 => (repeat' (first|exact FamR.here|(apply FamR.cons;focus rfl))));(case qz2 => (simp only [gB]));(case qm2 => rfl);(case qn2 => decide);all_goals (repeat' (first|exact trivial|refine And.intro ⟨_,rfl,?_⟩ ?_|refine And.intro ⟨_,_,rfl,rfl,?_⟩ ?_|exact RnL.purI inferInstance|exact RnV.purI inferInstance|exact RnV.optr rfl|exact RnV.imm (rT (M := (aB p).length) (Nat.le_refl _) (by show aX + (Cb _ _ _ _ _ _).length = _; rw [gB,hl2]))))))
       ·show v + 1 ≤ p.types.length;omega
       ·show p.types.length - (v + 1) < p.types.length - v;omega
      ·repeat' (first | refine aE ?_ | (refine aK ?_ ?_ <;> intro hc hq <;> try (exfalso; omega))|fail)
       have hvN : v = p.types.length := by omega
       subst hvN
       have hw3 : Gz (rE p.types (aB p) j (kX p.types.length R1 j)) (kX p.types.length R2 ((aB p)[j]!.next[kk]!).toNat) (rD p.types (aB p) j (lG p.types.length R1 j)) (lG p.types.length R2 ((aB p)[j]!.next[kk]!).toNat) = false := by assumption
       (apply bE (kk + 1,_,true);focus (refine Le.renF0 [(0,0),(2,2)] (R := ?qA3) (hF := ?qF3) (hz := ?qz3) (hm := ?qm3) (hn := ?qn3) (h1 := ?q13) (h2 := ?q23);(case qF3 => (repeat' (first|exact FamR.here|(apply FamR.cons;focus rfl))));(case qz3 => (rfl));(case qm3 => rfl);(case qn3 => decide);all_goals (repeat' (first|exact trivial|refine And.intro ⟨_,rfl,?_⟩ ?_|refine And.intro ⟨_,_,rfl,rfl,?_⟩ ?_|exact RnL.purI inferInstance|exact RnV.purI inferInstance|exact RnV.optr rfl|exact RnV.imm (rT (M := (aB p).length) (Nat.le_refl _) (by show aX + (Cb _ _ _ _ _ _).length = _; rw [gB,hl2]))))))
       ·exact ⟨(by show kk + 1 ≤ (aB p)[j]!.next.length;omega),hS2.hit w (DF j (kk + 1)) hS1.d hjn hkn hw3,fun h => (by cases h)⟩
       ·show (aB p)[j]!.next.length - (kk + 1) < (aB p)[j]!.next.length - kk;omega
     ·(apply bE (kk + 1, R2, c2); focus (refine Le.renF0 [(0, 0), (2, 2)] (R := ?qA4) (hF := ?qF4) (hz := ?qz4) (hm := ?qm4) (hn := ?qn4) (h1 := ?q14) (h2 := ?q24); (case qF4 => (repeat' (first | exact FamR.here | (apply FamR.cons; focus rfl)))); (case qz4 => (rfl)); (case qm4 => rfl); (case qn4 => decide); all_goals (repeat' (first | exact trivial | refine And.intro ⟨_, rfl, ?_⟩ ?_ | refine And.intro ⟨_, _, rfl, rfl, ?_⟩ ?_ | exact RnL.purI inferInstance | exact RnV.purI inferInstance | exact RnV.optr rfl | exact RnV.imm (rT (M := (aB p).length) (Nat.le_refl _) (by show aX + R2.length = _; rw [hl2]))))))
      ·refine ⟨(by show kk + 1 ≤ (aB p)[j]!.next.length;omega),hS2.skip (i := j) (k := kk) hc2 (by assumption) (fun i' k' _ _ hd => by unfold DF at hd ⊢; omega),hc2⟩
      ·show (aB p)[j]!.next.length - (kk + 1) < (aB p)[j]!.next.length - kk;omega
    ·repeat' (first | refine aE ?_ | (refine aK ?_ ?_ <;> intro hc hq <;> try (exfalso; omega))|fail)
     (apply bE (j + 1,R2,c2);focus (refine Le.renF0 [(0,0)] (R := ?qA5) (hF := ?qF5) (hz := ?qz5) (hm := ?qm5) (hn := ?qn5) (h1 := ?q15) (h2 := ?q25);(case qF5 => (repeat' (first|exact FamR.here|(apply FamR.cons;focus rfl))));(case qz5 => (rfl));(case qm5 => rfl);(case qn5 => decide);all_goals (repeat' (first|exact trivial|refine And.intro ⟨_,rfl,?_⟩ ?_|refine And.intro ⟨_,_,rfl,rfl,?_⟩ ?_|exact RnL.purI inferInstance|exact RnV.purI inferInstance|exact RnV.optr rfl|exact RnV.imm (rT (M := (aB p).length) (Nat.le_refl _) (by show aX + R2.length = _; rw [hl2]))))))
     ·refine ⟨(by show j + 1 ≤ (aB p).length; omega), hS2.mono fun i' k' _ hk' hd => ?_⟩
      unfold DF at hd ⊢
      by_cases e : i' = j
      ·subst e;omega
      ·omega
     ·show (aB p).length - (j + 1) < (aB p).length - j;omega
   ·repeat' (first | refine aE ?_ | (refine aK ?_ ?_ <;> intro hc hq <;> try (exfalso; omega))|fail)
    (apply bE (R1,c1);focus (refine Le.renF0 [(0,0)] (R := ?qA6) (hF := ?qF6) (hz := ?qz6) (hm := ?qm6) (hn := ?qn6) (h1 := ?q16) (h2 := ?q26);(case qF6 => (repeat' (first|exact FamR.here|(apply FamR.cons;focus rfl))));(case qz6 => (rfl));(case qm6 => rfl);(case qn6 => decide);all_goals (repeat' (first|exact trivial|refine And.intro ⟨_,rfl,?_⟩ ?_|refine And.intro ⟨_,_,rfl,rfl,?_⟩ ?_|exact RnL.purI inferInstance|exact RnV.purI inferInstance|exact RnV.optr rfl|exact RnV.imm (rT (M := (aB p).length) (Nat.le_refl _) (by show aX + R1.length = _; rw [hl1]))))))
    ·exact (hS1.fin (by omega)).1
    ·exact (hS1.fin (by omega)).2
instance (s : List (List Bool) × List Bool) : Pur (QI s):=⟨by show ((sl gQ s.1).pur && ((sl cB s.2).pur && true)) = true;rw [bB,bB]; rfl⟩
def L6 (ts : List Int) (pts : List Pnt) (Aa : List Nat) (i k : Nat) : List Iss := ((List.range k).filter (sV ts pts Aa i)).map (fun (v : Nat) => ⟨i,1,v⟩)
def Nl (pts : List Pnt) (cf : List Bool) (i k : Nat) : List Iss := ((List.range k).filter (fun (l : Nat) => cf[l]!)).map (fun (l : Nat) => ⟨i,DM pts l,l⟩)
theorem AJ {ts:List Int}{pts:List Pnt}{Aa:List Nat}{i k:Nat}(h:sV ts pts Aa i k = true):L6 ts pts Aa i (k + 1) = L6 ts pts Aa i k ++ [⟨i,1,k⟩]:=by
 unfold L6;rw [jO,if_pos h,List.map_append]; rfl
theorem lE {ts:List Int}{pts:List Pnt}{Aa:List Nat}{i k:Nat}(h:sV ts pts Aa i k = false):L6 ts pts Aa i (k + 1) = L6 ts pts Aa i k:=by
 unfold L6;rw [jO,if_neg (by rw [h]; decide),List.append_nil]
theorem oC {pts:List Pnt}{cf:List Bool}{i k:Nat}(h:cf[k]! = true):Nl pts cf i (k + 1) = Nl pts cf i k ++ [⟨i,DM pts k,k⟩]:=by
 unfold Nl;rw [jO,if_pos h,List.map_append]; rfl
theorem uM {pts:List Pnt}{cf:List Bool}{i k:Nat}(h:cf[k]! = false):Nl pts cf i (k + 1) = Nl pts cf i k:=by
 unfold Nl;rw [jO,if_neg (by rw [h]; decide),List.append_nil]
theorem GH (p:Prg) (f:Flows p.types (aB p)) (hs:aT p.body ≤ 1000000) (w:WG p.types (aB p)) (hr:Rch (aB p)):PC Tryz.prog 169 [b8 p,sl gQ (bH p.types.length (aB p).length f.Al)] (fun r => r = sl dW f.iss):=by
 have hpl := w.pl
 have hp0 := w.p0
 have htl := w.tl
 have hfa := fL p true f.Aa hs w hr (by unfold kO;exact f.ga)
 have hfm := fL p false f.Am hs w hr (by unfold kO;exact f.gm)
 have hfl := uK p f.Af f.Ap hs w f.gf f.gp
 have hra := cZ p.types.length (aB p).length f.Aa
 have hrm := cZ p.types.length (aB p).length f.Am
 have hrl := cZ p.types.length (aB p).length f.Al
 have hfll : ((List.range (aB p).length).map (e7 p.types.length (aB p).length f.Af f.Ap)).length = (aB p).length := by simp
 refine aC Tryz.func169 Tryz.ntmps169 ?_
 repeat' (first|(apply aF;first|(apply aA (k := 132);rfl;exact dP p hs;exact Pur.pf;rfl)|(apply aA (k := 64) (d := 20);rfl;exact hfa;exact Pur.pf;rfl)|(apply aA (k := 64) (d := 22);rfl;exact hfm;exact Pur.pf;rfl)|(apply aA (k := 171);rfl;exact hfl;exact Pur.pf;rfl))|refine aE ?_|fail)
 refine aH (σ := Nat × List Iss × Nat) [1,2,6,7,8,9] [0] (fun s => [(10,iv (s.1 : Int)),(5,.own 1 0 s.2.2 3)]) (fun s => [(1,some (flat dW s.2.1))]) (fun s => s.1 ≤ (aB p).length ∧ s.2.1 = iX p.types (aB p) f.Aa f.Am f.Al f.Af f.Ap s.1 ∧ s.2.2 = s.2.1.length ∧ s.2.2 ≤ 67 * s.1) (fun s => (aB p).length - s.1) (0,[],0) ⟨Nat.zero_le _,rfl,rfl,Nat.le_refl _⟩ ?_
 rintro ⟨i,L,m⟩ ⟨hi,hL,hm,hmb⟩
 dsimp only at hi hL hm hmb
 try dsimp only
 by_cases hin : i < (aB p).length
 ·repeat' (first | refine aE ?_ | (refine aK ?_ ?_ <;> intro hc hq <;> try (exfalso; omega))|fail)
  refine aH (σ := Nat × List Iss × Nat) [1,2,6,7,8,9,10] [0] (fun s => [(11,iv (s.1 : Int)),(5,.own 1 0 s.2.2 3)]) (fun s => [(1,some (flat dW s.2.1))]) (fun s => s.1 ≤ p.types.length ∧ s.2.1 = L ++ L6 p.types (aB p) f.Aa i s.1 ∧ s.2.2 = s.2.1.length ∧ s.2.2 ≤ 67 * i + s.1) (fun s => p.types.length - s.1) (0,L,m) ⟨Nat.zero_le _,(List.append_nil L).symm,hm,hmb⟩ ?_
  rintro ⟨v,L2,m2⟩ ⟨hv,hL2,hm2,hmb2⟩
  dsimp only at hv hL2 hm2 hmb2
  try dsimp only
  by_cases hvn : v < p.types.length
  ·have hga := iC p.types.length (aB p).length f.Aa i v hin hvn
   have hgl : (bH p.types.length (aB p).length f.Aa)[i]!.length = p.types.length := by rw [cQ _ _ _ _ hin]; simp
   repeat' (first|(apply aF;(apply aA (k := 173);rfl;(apply kF <;> (omega));exact Pur.pf;rfl))|refine aE ?_|(refine aK ?_ ?_ <;> intro hc hq <;> try (exfalso;omega))|(refine bS ?_ ?_ <;> intro hg hq <;> try (exfalso;omega))|refine bQ ?_|fail)
   ·(refine bE (v + 1, L2 ++ [⟨i, 1, v⟩], m2 + 1) (Le.renA [(0, 0), (1, 3)]) ?_ ?_)
    ·have hu : sV p.types (aB p) f.Aa i v = true := by
      unfold sV;rw [← hga,decide_eq_false (by assumption),(by assumption : (bH p.types.length (aB p).length f.Aa)[i]![v]! = false)]; rfl
     exact ⟨(by show v + 1 ≤ p.types.length;omega),(by show L2 ++ [⟨i,1,v⟩] = _; rw [hL2,List.append_assoc,← AJ hu]),(by show m2 + 1 = (L2 ++ [_]).length;rw [List.length_append,List.length_singleton,hm2]),(by show m2 + 1 ≤ 67 * i + (v + 1);omega)⟩
    ·show p.types.length - (v + 1) < p.types.length - v;omega
   ·(refine bE (v + 1, L2, m2) (Le.renA [(0, 0), (1, 1)]) ?_ ?_)
    ·have hu : sV p.types (aB p) f.Aa i v = false := by
      unfold sV;rw [← hga,(by assumption : (bH p.types.length (aB p).length f.Aa)[i]![v]! = true)]; simp
     exact ⟨(by show v + 1 ≤ p.types.length;omega),(by show L2 = _; rw [lE hu]; exact hL2),hm2,(by show m2 ≤ 67 * i + (v + 1);omega)⟩
    ·show p.types.length - (v + 1) < p.types.length - v;omega
   ·(refine bE (v + 1, L2, m2) (Le.renA [(0, 0), (1, 1)]) ?_ ?_)
    ·have hu : sV p.types (aB p) f.Aa i v = false := by
      unfold sV;rw [decide_eq_true (by assumption)]; rfl
     exact ⟨(by show v + 1 ≤ p.types.length;omega),(by show L2 = _; rw [lE hu]; exact hL2),hm2,(by show m2 ≤ 67 * i + (v + 1);omega)⟩
    ·show p.types.length - (v + 1) < p.types.length - v;omega
  ·have hvN : v = p.types.length := by omega
   have hset := w.set i hin
   have hy := w.y i hin
   have hfi : ((List.range (aB p).length).map (e7 p.types.length (aB p).length f.Af f.Ap))[i]! = e7 p.types.length (aB p).length f.Af f.Ap i := a6 _ _ _ hin
   have hgm : (bH p.types.length (aB p).length f.Am)[i]!.length = p.types.length := by rw [cQ _ _ _ _ hin]; simp
   have hgl : (bH p.types.length (aB p).length f.Al)[i]!.length = p.types.length := by rw [cQ _ _ _ _ hin]; simp
   have hf2 : (e7 p.types.length (aB p).length f.Af f.Ap i).2.length = (aB p).length := by simp [e7]
   have hf1 : (e7 p.types.length (aB p).length f.Af f.Ap i).1.length = p.types.length := by simp [e7]
   have hf3 : ∀ v, v < p.types.length → (e7 p.types.length (aB p).length f.Af f.Ap i).1[v]!.length = (e7 p.types.length (aB p).length f.Af f.Ap i).2.length := fun v hv => by
    rw [hf2]; unfold e7;dsimp only;rw [a6 _ _ _ hv]; simp
   have hacc := l7 p.types (aB p)[i]! (bH p.types.length (aB p).length f.Am)[i]! htl hgm hset.1 hy
   have hlv := vC p.types (aB p)[i]! ((List.range (aB p).length).map (e7 p.types.length (aB p).length f.Af f.Ap))[i]!.1 ((List.range (aB p).length).map (e7 p.types.length (aB p).length f.Af f.Ap))[i]!.2 (bH p.types.length (aB p).length f.Al)[i]! htl (by rw [hfi,hf2]; exact hpl) hgl (by rw [hfi]; exact hf1) (by rw [hfi]; exact hf3)
   have hlvl : (wV p.types (aB p)[i]! ((List.range (aB p).length).map (e7 p.types.length (aB p).length f.Af f.Ap))[i]!.1 (bH p.types.length (aB p).length f.Al)[i]! ((List.range (aB p).length).map (e7 p.types.length (aB p).length f.Af f.Ap))[i]!.2.length).length = (aB p).length := by unfold wV;rw [List.length_map,List.length_range,hfi,hf2]
   have hcn := kR (aB p) (fS p.types (aB p)[i]! (bH p.types.length (aB p).length f.Am)[i]![(aM (aB p)[i]!).toNat]!) ((List.range (aB p).length).map (e7 p.types.length (aB p).length f.Af f.Ap))[i]!.1 ((List.range (aB p).length).map (e7 p.types.length (aB p).length f.Af f.Ap))[i]!.2 (wV p.types (aB p)[i]! ((List.range (aB p).length).map (e7 p.types.length (aB p).length f.Af f.Ap))[i]!.1 (bH p.types.length (aB p).length f.Al)[i]! ((List.range (aB p).length).map (e7 p.types.length (aB p).length f.Af f.Ap))[i]!.2.length) hpl (by have := pP p.types (aB p)[i]! (bH p.types.length (aB p).length f.Am)[i]![(aM (aB p)[i]!).toNat]!; omega) (by rw [hfi]; exact hf2) hlvl
   have hcf : Lt (aB p) (fS p.types (aB p)[i]! (bH p.types.length (aB p).length f.Am)[i]![(aM (aB p)[i]!).toNat]!) ((List.range (aB p).length).map (e7 p.types.length (aB p).length f.Af f.Ap))[i]!.2 (wV p.types (aB p)[i]! ((List.range (aB p).length).map (e7 p.types.length (aB p).length f.Af f.Ap))[i]!.1 (bH p.types.length (aB p).length f.Al)[i]! ((List.range (aB p).length).map (e7 p.types.length (aB p).length f.Af f.Ap))[i]!.2.length) = AI p.types (aB p) f.Am f.Al f.Af f.Ap i := by
    rw [hfi,hf2]; rfl
   have hcl : (AI p.types (aB p) f.Am f.Al f.Af f.Ap i).length = (aB p).length := by unfold AI;rw [qJ]
   repeat' (first|(apply aF;first|(apply aA (k := 175);rfl;exact hacc;exact Pur.pf;rfl)|(apply aA (k := 176);rfl;exact hlv;exact Pur.pf;rfl)|(apply aA (k := 174);rfl;exact hcn;exact Pur.pf;rfl)|(with_reducible apply aY (d := 14)))|refine aE ?_|(refine aK ?_ ?_ <;> intro hc hq <;> try (exfalso;omega))|refine bQ ?_|fail)
   refine bZ ?_
   rw [hcf]
   repeat' (first|refine aE ?_|fail)
   refine aH (σ := Nat × List Iss × Nat) [1,2,6,7,8,9,10,13] [0] (fun s => [(14,iv (s.1 : Int)),(5,.own 1 0 s.2.2 3)]) (fun s => [(1,some (flat dW s.2.1))]) (fun s => s.1 ≤ (aB p).length ∧ s.2.1 = L2 ++ Nl (aB p) (AI p.types (aB p) f.Am f.Al f.Af f.Ap i) i s.1 ∧ s.2.2 = s.2.1.length ∧ s.2.2 ≤ 67 * i + 6 + s.1) (fun s => (aB p).length - s.1) (0,L2,m2) ⟨Nat.zero_le _,(List.append_nil L2).symm,hm2,by show m2 ≤ 67 * i + 6 + 0;omega⟩ ?_
   rintro ⟨l,L3,m3⟩ ⟨hl,hL3,hm3,hmb3⟩
   dsimp only at hl hL3 hm3 hmb3
   try dsimp only
   by_cases hln : l < (aB p).length
   ·repeat' (first | refine aE ?_ | (refine aK ?_ ?_ <;> intro hc hq <;> try (exfalso; omega))|fail)
    ·(refine bE (l + 1, L3, m3) (Le.renA [(0, 0), (1, 1)]) ?_ ?_)
     ·exact ⟨(by show l + 1 ≤ (aB p).length;omega),(by show L3 = _; rw [uM (by assumption)]; exact hL3),hm3,(by show m3 ≤ 67 * i + 6 + (l + 1);omega)⟩
     ·show (aB p).length - (l + 1) < (aB p).length - l;omega
    ·(refine bE (l + 1, L3 ++ [⟨i, 3, l⟩], m3 + 1) (Le.renA [(0, 0), (1, 3)]) ?_ ?_)
     ·have hk : DM (aB p) l = 3 := by unfold DM; rw [if_pos (by assumption)]
      exact ⟨(by show l + 1 ≤ (aB p).length;omega),(by show L3 ++ [⟨i,3,l⟩] = _; rw [hL3,List.append_assoc,← hk,← oC (by assumption)]),(by show m3 + 1 = (L3 ++ [_]).length;rw [List.length_append,List.length_singleton,hm3]),(by show m3 + 1 ≤ 67 * i + 6 + (l + 1);omega)⟩
     ·show (aB p).length - (l + 1) < (aB p).length - l;omega
    ·(refine bE (l + 1, L3 ++ [⟨i, 2, l⟩], m3 + 1) (Le.renA [(0, 0), (1, 3)]) ?_ ?_)
     ·have hk : DM (aB p) l = 2 := by unfold DM; rw [if_neg (by assumption)]
      exact ⟨(by show l + 1 ≤ (aB p).length;omega),(by show L3 ++ [⟨i,2,l⟩] = _; rw [hL3,List.append_assoc,← hk,← oC (by assumption)]),(by show m3 + 1 = (L3 ++ [_]).length;rw [List.length_append,List.length_singleton,hm3]),(by show m3 + 1 ≤ 67 * i + 6 + (l + 1);omega)⟩
     ·show (aB p).length - (l + 1) < (aB p).length - l;omega
   ·repeat' (first | refine aE ?_ | (refine aK ?_ ?_ <;> intro hc hq <;> try (exfalso; omega))|fail)
    (refine bE (i + 1,L3,m3) (Le.renA [(0,0),(1,1)]) ?_ ?_)
    ·refine ⟨(by show i + 1 ≤ (aB p).length; omega), ?_, hm3, (by show m3 ≤ 67 * (i + 1); omega)⟩
     show L3 = iX p.types (aB p) f.Aa f.Am f.Al f.Af f.Ap (i + 1)
     rw [jJ,← Pw w f hin,hL3,hL2,hL,hvN,show l = (aB p).length by omega,List.append_assoc]
     rfl
    ·show (aB p).length - (i + 1) < (aB p).length - i;omega
 ·repeat' (first | refine aE ?_ | (refine aK ?_ ?_ <;> intro hc hq <;> try (exfalso; omega))|fail)
  have hiN : i = (aB p).length := by omega
  refine aS (Le.frzD (d := 4) (i := 1) rfl rfl) ?_
  refine aD rfl ⟨?_,(by (exact bB _ _))⟩
  simp only [aO]
  rw [hm,hL,hiN]; rfl
theorem JN (p:Prg) (f:Flows p.types (aB p)) (hl:p.types.length ≤ 1000000) (hs:aT p.body ≤ 1000000):PC Tryz.prog 98 [b8 p] (fun r => r = sl dW (AN p f)):=by
 unfold AN
 cases hv : bD p
 ·have hval := fX p hl (by omega)
  rw [hv] at hval
  refine aC Tryz.func98 Tryz.ntmps98 ?_
  repeat' (first|(apply aF;first|(apply aA (k := 61);rfl;exact hval;exact Pur.pf;rfl)|(apply aJ (t := _);rfl;rfl;rfl;(rfl);rfl;rfl))|refine aE ?_|fail)
  exact aD rfl ⟨rfl,rfl⟩
 ·have w := WG.of_valid hv
  have hr := Rch.of p
  have hval := fX p hl (by omega)
  rw [hv] at hval
  have hlv := Br p f.Al hs w f.gl
  have hck := GH p f hs w hr
  refine aC Tryz.func98 Tryz.ntmps98 ?_
  repeat' (first|(apply aF;first|(apply aA (k := 61);rfl;exact hval;exact Pur.pf;rfl)|(apply aA (k := 170);rfl;exact hlv;exact Pur.pf;rfl)|(apply aA (k := 169);rfl;exact hck;exact Pur.pf;rfl))|refine aE ?_|refine bQ ?_|fail)
  exact aD rfl ⟨rfl,(by (exact bB _ _))⟩
abbrev fC (bs : List UInt8) (p : Nat) : List AV := [sl cU bs,iv (p : Int)]
def NY (bs : List UInt8) (q : Int) : Int := ((bs[(q % (bs.length : Int)).toNat]!).toNat : Int) * 131 + ((bs[((q * 7 + 3) % (bs.length : Int)).toNat]!).toNat : Int) * 1117 + q * 29 + q / (bs.length : Int) * 53
def bI (bs : List UInt8) (p : Nat) (n : Int) : Int :=
 if n < 1 then 0 else if (bs.length : Int) = 0 then 0 else
 if (p : Int) + 1 - 1 < (bs.length : Int) then ((bs[((p : Int) + 1 - 1).toNat]!).toNat : Int) % n
 else (((NY bs ((p : Int) + 1 - 1)).toNat ^^^ (NY bs ((p : Int) + 1 - 1) / 64).toNat : Nat) : Int) % n
theorem fA (bs:List UInt8) (p:Nat) (n:Int):0 ≤ bI bs p n ∧ (bI bs p n < n ∨ n < 1 ∧ bI bs p n = 0):=by
 unfold bI
 split
 ·omega
 ·split
  ·omega
  ·split
   ·exact ⟨Int.emod_nonneg _ (by omega),.inl (Int.emod_lt_of_pos _ (by omega))⟩
   ·exact ⟨Int.emod_nonneg _ (by omega),.inl (Int.emod_lt_of_pos _ (by omega))⟩
def jH (bs : List UInt8) (p : Nat) (xs : List Int) : Int := xs[(bI bs p (xs.length : Int)).toNat]!
class NumL (cs : List AV) (xs : outParam (List Int)) : Prop where h : cs = flat cI xs
instance NumL.nil : NumL [] []:=⟨rfl⟩
instance NumL.cons {n : Int} {cs : List AV} {xs : List Int} [h : NumL cs xs] : NumL (.v (.int .i64 n) :: cs) (n :: xs):=⟨by rw [h.h]; rfl⟩
theorem l5 {bs:List UInt8}{p:Nat}{n:Int}{x0 x1:Operand}{i0:Nat}(ha0:ev (lk tsl) x0 = some (.optr i0 0)) (ha1:ev (lk tsl) x1 = some (iv n)) (hH0:aU hsl i0 = some (fC bs p)) (hmc:MC Tryz.prog 52 [.optr 0 0,iv n] [(0,some (fC bs p))] 1 (fun _:Unit => True) (fun _ => iv (bI bs p n)) (fun _ => [(0,some (fC bs (p + 1)))])) (hM:Nat.ble (nidl + 0) aX = true) (hN:Nat.blt d N = true){md':Md}[hmd:MdA md (fP [x0,x1] ++ [.inr i0]) (List.map Sum.inr (List.map Prod.fst ([(i0,some (fC bs (p + 1)))]:List (Nat × Option (List AV)))) ++ [.inl d]) md'] (kk:RW Tryz.prog N all Q md' rest ⟨(d,iv (bI bs p n)) :: tsl,gR hsl [(i0,some (fC bs (p + 1)))],nidl + 0,z0⟩):RW Tryz.prog N all Q md (⟨some d,.call ⟨.value (.func 52),#[x0,x1],tys⟩,ty,pos,af,none⟩ :: rest) ⟨tsl,hsl,nidl,z0⟩:=by
 exact aZ (l := [x0,x1]) [i0] 1 [(i0,some (fC bs (p + 1)))] hmc (avs := [.optr i0 0,iv n]) (by simp only [evL,ha0,ha1]) rfl hM hN (md' := md') (hmd := hmd) kk
theorem Nt {bs:List UInt8}{p:Nat}{xs:List Int}{x0 x1:Operand}{i0:Nat}(ha0:ev (lk tsl) x0 = some (.optr i0 0)) (ha1:ev (lk tsl) x1 = some (sl cI xs)) (hH0:aU hsl i0 = some (fC bs p)) (hmc:MC Tryz.prog 53 [.optr 0 0,sl cI xs] [(0,some (fC bs p))] 1 (fun _:Unit => True) (fun _ => iv (jH bs p xs)) (fun _ => [(0,some (fC bs (p + 1)))])) (hM:Nat.ble (nidl + 0) aX = true) (hN:Nat.blt d N = true){md':Md}[hmd:MdA md (fP [x0,x1] ++ [.inr i0]) (List.map Sum.inr (List.map Prod.fst ([(i0,some (fC bs (p + 1)))]:List (Nat × Option (List AV)))) ++ [.inl d]) md'] (kk:RW Tryz.prog N all Q md' rest ⟨(d,iv (jH bs p xs)) :: tsl,gR hsl [(i0,some (fC bs (p + 1)))],nidl + 0,z0⟩):RW Tryz.prog N all Q md (⟨some d,.call ⟨.value (.func 53),#[x0,x1],tys⟩,ty,pos,af,none⟩ :: rest) ⟨tsl,hsl,nidl,z0⟩:=by
 exact aZ (l := [x0,x1]) [i0] 1 [(i0,some (fC bs (p + 1)))] hmc (avs := [.optr i0 0,sl cI xs]) (by simp only [evL,ha0,ha1]) rfl hM hN (md' := md') (hmd := hmd) kk
theorem Jz {bs:List UInt8}{p:Nat}{xs:List Int}{x0 x1:Operand}{i0 i1:Nat}(ha0:ev (lk tsl) x0 = some (.optr i0 0)) (ha1:ev (lk tsl) x1 = some (.own i1 0 xs.length 1)) (hH0:aU hsl i0 = some (fC bs p)) (hH1:aU hsl i1 = some (flat cI xs)) (hdd:Go.AL.distinct [i0,i1] = true) (hmc:MC Tryz.prog 53 [.optr 0 0,.own 1 0 xs.length 1] [(0,some (fC bs p)),(1,some (flat cI xs))] 2 (fun _:Unit => True) (fun _ => iv (jH bs p xs)) (fun _ => [(0,some (fC bs (p + 1)))])) (hM:Nat.ble (nidl + 0) aX = true) (hN:Nat.blt d N = true){md':Md}[hmd:MdA md (fP [x0,x1] ++ [.inr i0,.inr i1]) (List.map Sum.inr (List.map Prod.fst ([(i0,some (fC bs (p + 1))),(i1,none)]:List (Nat × Option (List AV)))) ++ [.inl d]) md'] (kk:RW Tryz.prog N all Q md' rest ⟨(d,iv (jH bs p xs)) :: tsl,gR hsl [(i0,some (fC bs (p + 1))),(i1,none)],nidl + 0,z0⟩):RW Tryz.prog N all Q md (⟨some d,.call ⟨.value (.func 53),#[x0,x1],tys⟩,ty,pos,af,none⟩ :: rest) ⟨tsl,hsl,nidl,z0⟩:=by
 exact aZ (l := [x0,x1]) [i0,i1] 2 [(i0,some (fC bs (p + 1))),(i1,none)] hmc (avs := [.optr i0 0,.own i1 0 xs.length 1]) (by simp only [evL,ha0,ha1]) hdd hM hN (md' := md') (hmd := hmd) kk
theorem oU (bs:List UInt8) (p:Nat) (n:Int) (hb:bs.length ≤ 2000) (hp:p ≤ 1000000) (hn0:0 ≤ n) (hn:n ≤ 1000000):MC Tryz.prog 52 [.optr 0 0,iv n] [(0,some (fC bs p))] 1 (fun _:Unit => True) (fun _ => iv (bI bs p n)) (fun _ => [(0,some (fC bs (p + 1)))]):=by
 have hdiv : 0 ≤ ((p : Int) + 1 - 1) / (bs.length : Int) ∧ ((p : Int) + 1 - 1) / (bs.length : Int) ≤ p + 1 - 1 := ⟨Int.ediv_nonneg (by omega) (by omega),Int.ediv_le_self _ (by omega)⟩
 refine aV Tryz.func52 Tryz.ntmps52 ?_
 repeat' (first|(apply aF;(apply Jk;rfl;rfl;(case' kk => intro hbd)))|refine aE ?_|(refine aK ?_ ?_ <;> intro hc hq <;> try (exfalso;omega))|(refine bS ?_ ?_ <;> intro hg hq <;> try (exfalso;omega))|refine bQ ?_|fail)
 all_goals (refine aD rfl ?_; refine aR () trivial ?_ ⟨sE ?_,trivial⟩)
 all_goals first|rfl|skip
 all_goals simp only [aO,AV.v.injEq,Value.int.injEq,true_and,bI]
 ·rw [if_neg (by omega),if_pos (by omega)]
 ·rw [if_neg (by omega),if_neg (by omega),if_pos (by omega)]
 ·rw [if_neg (by omega),if_neg (by omega),if_neg (by omega)]; rfl
 ·rw [if_pos (by omega)]
theorem Oq (bs:List UInt8) (p:Nat) (xs:List Int) (hb:bs.length ≤ 2000) (hp:p ≤ 1000000) (h0:0 < xs.length) (hn:xs.length ≤ 1000000):MC Tryz.prog 53 [.optr 0 0,sl cI xs] [(0,some (fC bs p))] 1 (fun _:Unit => True) (fun _ => iv (jH bs p xs)) (fun _ => [(0,some (fC bs (p + 1)))]):=by
 have hpf := fA bs p xs.length
 refine aV Tryz.func53 Tryz.ntmps53 ?_
 repeat' (first|(apply aF;(apply l5;rfl;rfl;(rfl);(apply oU <;> (first|assumption|omega));rfl;rfl))|refine aE ?_|fail)
 (refine aD rfl ?_; refine aR () trivial ?_ ⟨sE ?_,trivial⟩)
 ·rfl
 ·rfl
theorem P7 {Q:Exit → AS → Prop}{all:Array Oper}{rest:List Oper}{N:Nat}{tsl:List (Nat × AV)}{hsl:List (Nat × Option (List AV))}{nidl:Nat}{z0:Lo}{md:Md}{d:Nat}{ty:TypeId}{pos:String}{af:Array Edge}{tys:Array TypeId}
  {bs : List UInt8} {p m : Nat} {cs : List AV} {xs : List Int} {x0 x1 : Operand} {i0 : Nat} (ha0 : ev (lk tsl) x0 = some (.optr i0 0)) (ha1 : ev (lk tsl) x1 = some (.imm m cs)) (hcs : NumL cs xs) (hH0 : aU hsl i0 = some (fC bs p))
  (hm : m = xs.length) (hb : bs.length ≤ 2000) (hp : p ≤ 1000000) (h0 : 0 < xs.length) (hn : xs.length ≤ 1000000) (hM : Nat.ble (nidl + 0) aX = true) (hN : Nat.blt d N = true) {md' : Md}
  [hmd : MdA md (fP [x0,x1] ++ [.inr i0]) [.inr i0,.inl d] md']
  (kk : RW Tryz.prog N all Q md' rest ⟨(d,iv (jH bs p xs)) :: tsl,(i0,some (fC bs (p + 1))) :: hsl,nidl + 0,z0⟩) : RW Tryz.prog N all Q md (⟨some d,.call ⟨.value (.func 53),#[x0,x1],tys⟩,ty,pos,af,none⟩ :: rest) ⟨tsl,hsl,nidl,z0⟩ := by
 have h := hcs.h
 subst hm h
 exact Nt ha0 ha1 hH0 (Oq bs p xs hb hp h0 hn) hM hN (hmd := hmd) kk
theorem LJ (bs:List UInt8) (p:Nat) (xs:List Int) (hb:bs.length ≤ 2000) (hp:p ≤ 1000000) (h0:0 < xs.length) (hn:xs.length ≤ 1000000):MC Tryz.prog 53 [.optr 0 0,.own 1 0 xs.length 1] [(0,some (fC bs p)),(1,some (flat cI xs))] 2 (fun _:Unit => True) (fun _ => iv (jH bs p xs)) (fun _ => [(0,some (fC bs (p + 1)))]):=by
 have hpf := fA bs p xs.length
 refine aV Tryz.func53 Tryz.ntmps53 ?_
 repeat' (first|(apply aF;(apply l5;rfl;rfl;(rfl);(apply oU <;> (first|assumption|omega));rfl;rfl))|refine aE ?_|fail)
 (refine aD rfl ?_; refine aR () trivial ?_ ⟨sE ?_,trivial⟩)
 ·rfl
 ·rfl
theorem E1 {Q:Exit → AS → Prop}{all:Array Oper}{rest:List Oper}{N:Nat}{tsl:List (Nat × AV)}{hsl:List (Nat × Option (List AV))}{nidl:Nat}{z0:Lo}{md:Md}{d:Nat}{ty:TypeId}{pos:String}{af:Array Edge}{tys:Array TypeId}
  {bs : List UInt8} {p m : Nat} {cs : List AV} {xs : List Int} {x0 x1 : Operand} {i0 i1 : Nat} (ha0 : ev (lk tsl) x0 = some (.optr i0 0)) (ha1 : ev (lk tsl) x1 = some (.own i1 0 m 1)) (hH0 : aU hsl i0 = some (fC bs p)) (hH1 : aU hsl i1 = some cs) (hcs : NumL cs xs)
  (hdd : Go.AL.distinct [i0,i1] = true) (hm : m = xs.length) (hb : bs.length ≤ 2000) (hp : p ≤ 1000000) (h0 : 0 < xs.length) (hn : xs.length ≤ 1000000) (hM : Nat.ble (nidl + 0) aX = true) (hN : Nat.blt d N = true) {md' : Md}
  [hmd : MdA md (fP [x0,x1] ++ [.inr i0,.inr i1]) [.inr i0,.inr i1,.inl d] md']
  (kk : RW Tryz.prog N all Q md' rest ⟨(d,iv (jH bs p xs)) :: tsl,gR hsl [(i0,some (fC bs (p + 1))),(i1,none)],nidl + 0,z0⟩) : RW Tryz.prog N all Q md (⟨some d,.call ⟨.value (.func 53),#[x0,x1],tys⟩,ty,pos,af,none⟩ :: rest) ⟨tsl,hsl,nidl,z0⟩ := by
 have h := hcs.h
 subst hm h
 exact Jz ha0 ha1 hH0 hH1 hdd (LJ bs p xs hb hp h0 hn) hM hN (hmd := hmd) kk
theorem Ph (bs:List UInt8) (hb:bs.length ≤ 1048576):MC Tryz.prog 51 [sl cU bs] [] 0 (fun _:Unit => True) (fun _ => .optr 0 0) (fun _ => [(0,some (fC (bs.take 2000) 0))]):=by
 refine aV Tryz.func51 Tryz.ntmps51 ?_
 repeat' (first|refine aE ?_|(refine aK ?_ ?_ <;> intro hc hq <;> try (exfalso;omega))|fail)
 ·(refine aD rfl ?_; refine aR () trivial ?_ ⟨sE ?_, trivial⟩)
  ·rfl
  ·rfl
 ·(refine aD rfl ?_; refine aR () trivial ?_ ⟨sE ?_, trivial⟩)
  ·rfl
  ·rw [List.take_of_length_le (by omega)]; rfl
def st (op x y n : Int) : AL.Stmt := .mk op x y n [] []
def kE (bs : List UInt8) (p : Nat) : AL.Stmt × Nat :=
 let box := 1 + bI bs p 2
 let owner := jH bs (p + 1) [1,2,1,4,5]
 let c := bI bs (p + 1 + 1) 11
 if c = 0 then (st 1 0 0 (bI bs (p + 1 + 1 + 1) 10),p + 4)
 else if c = 1 then (st 2 box 0 (bI bs (p + 1 + 1 + 1) 10),p + 4)
 else if c = 2 then (st 3 box (3 - box) 0,p + 3)
 else if c = 3 then (st 4 3 owner 0,p + 3)
 else if c = 4 ∨ c = 5 then (st 5 4 (jH bs (p + 1 + 1 + 1) [1,2,1,5]) 0,p + 4)
 else if c = 6 then (st 6 0 (jH bs (p + 1 + 1 + 1) [3,4,1,2,5]) 0,p + 4)
 else if c = 7 then (st 7 (jH bs (p + 1 + 1 + 1) [4,1,2,5]) 0 0,p + 4)
 else if c = 8 then (st 8 box 0 0,p + 3)
 else (st 5 5 (jH bs (p + 1 + 1 + 1) [4,1,2]) 0,p + 4)
def iP (one : Nat → AL.Stmt × Nat) (s : AL.Stmt) (p : Nat) : Nat → List AL.Stmt × Nat
 | 0 => ([s],p)
 | k + 1 => ((iP one s p k).1 ++ [(one (iP one s p k).2).1],(one (iP one s p k).2).2)
def xM (bs : List UInt8) : Nat → Nat → AL.Stmt × Nat
 | 0,p => kE bs p
 | d + 1, p =>
  let c := bI bs (p + 1 + 1) 11
  if c = 9 then
   let r := iP (xM bs d) (st 2 1 0 (bI bs (p + 1 + 1 + 1 + 1) 10)) (p + 1 + 1 + 1 + 1 + 1) (bI bs (p + 1 + 1 + 1) 3).toNat
   let e := kE bs r.2
   (.mk 9 0 0 0 r.1 [e.1],e.2)
  else if c = 10 then
   let a := kE bs (p + 1 + 1 + 1)
   let b := kE bs a.2
   (.mk 10 0 0 0 [a.1,b.1] [],b.2)
  else kE bs p
def fB (bs : List UInt8) (d : Int) (p : Nat) : AL.Stmt × Nat := xM bs d.toNat p
def dX (bs : List UInt8) (d n : Int) (p : Nat) : List AL.Stmt × Nat := iP (fB bs d) (st 2 1 0 (bI bs p 10)) (p + 1) n.toNat
theorem vB (bs:List UInt8) (p:Nat):(kE bs p).2 ≤ p + 4:=by
 unfold kE;dsimp only;repeat' split
 all_goals omega
theorem vW (bs:List UInt8) (p:Nat):cR (kE bs p).1 = 1:=by
 unfold kE st;dsimp only;repeat' split
 all_goals simp [cR,aT]
theorem zI {one:Nat → AL.Stmt × Nat}{c:Nat}(h:∀ p,(one p).2 ≤ p + c) (s:AL.Stmt) (p:Nat):∀ k,(iP one s p k).2 ≤ p + k * c
 | 0 => by simp [iP]
 | k + 1 => by
  have := zI h s p k
  have := h (iP one s p k).2
  simp only [iP,Nat.succ_mul]; omega
theorem Ab {one:Nat → AL.Stmt × Nat}{c:Nat}(h:∀ p,cR (one p).1 ≤ c) (s:AL.Stmt) (p:Nat):∀ k,aT (iP one s p k).1 ≤ cR s + k * c
 | 0 => by simp [iP,aT]
 | k + 1 => by
  have := Ab h s p k
  have := h (iP one s p k).2
  simp only [iP,Nat.succ_mul,gI,aT]; omega
def CP : Nat → Nat
 | 0 => 4
 | d + 1 => 9 + 2 * CP d
def Ht : Nat → Nat
 | 0 => 1
 | d + 1 => 3 + 2 * Ht d
theorem k3 (bs:List UInt8) (p:Nat):(bI bs p 3).toNat ≤ 2 := by have := fA bs p 3;omega
theorem Jf (bs:List UInt8):∀ d p,(xM bs d p).2 ≤ p + CP d
 | 0,p => vB bs p
 | d + 1, p => by
  have h0 := vB bs p
  have h1 := zI (Jf bs d) (st 2 1 0 (bI bs (p + 1 + 1 + 1 + 1) 10)) (p + 1 + 1 + 1 + 1 + 1) (bI bs (p + 1 + 1 + 1) 3).toNat
  have h2 := k3 bs (p + 1 + 1 + 1)
  have h3 : (bI bs (p + 1 + 1 + 1) 3).toNat * CP d ≤ 2 * CP d := Nat.mul_le_mul_right _ h2
  have h4 := vB bs (iP (xM bs d) (st 2 1 0 (bI bs (p + 1 + 1 + 1 + 1) 10)) (p + 1 + 1 + 1 + 1 + 1) (bI bs (p + 1 + 1 + 1) 3).toNat).2
  have h5 := vB bs (p + 1 + 1 + 1)
  have h6 := vB bs (kE bs (p + 1 + 1 + 1)).2
  have h7 : 1 ≤ CP d := by cases d <;> simp only [CP] <;> omega
  simp only [xM,CP]
  split
  ·dsimp only;omega
  ·split
   ·dsimp only;omega
   ·omega
theorem Ic (bs:List UInt8):∀ d p,cR (xM bs d p).1 ≤ Ht d
 | 0,p => by rw [xM,vW]; decide
 | d + 1, p => by
  have h0 := vW bs p
  have h1 := Ab (Ic bs d) (st 2 1 0 (bI bs (p + 1 + 1 + 1 + 1) 10)) (p + 1 + 1 + 1 + 1 + 1) (bI bs (p + 1 + 1 + 1) 3).toNat
  have h2 := k3 bs (p + 1 + 1 + 1)
  have h3 : (bI bs (p + 1 + 1 + 1) 3).toNat * Ht d ≤ 2 * Ht d := Nat.mul_le_mul_right _ h2
  have h4 := vW bs (iP (xM bs d) (st 2 1 0 (bI bs (p + 1 + 1 + 1 + 1) 10)) (p + 1 + 1 + 1 + 1 + 1) (bI bs (p + 1 + 1 + 1) 3).toNat).2
  have h5 := vW bs (p + 1 + 1 + 1)
  have h6 := vW bs (kE bs (p + 1 + 1 + 1)).2
  have h7 : cR (st 2 1 0 (bI bs (p + 1 + 1 + 1 + 1) 10)) = 1 := by simp [st,cR,aT]
  simp only [xM,Ht]
  split
  ·simp only [cR,aT]; omega
  ·split
   ·simp only [cR,aT]; omega
   ·omega
theorem KB (bs:List UInt8){d:Int}(h:d ≤ 2) (p:Nat):(fB bs d p).2 ≤ p + 43:=by
 have h1 := Jf bs d.toNat p
 have h2 : CP d.toNat ≤ 43 := by
  have : d.toNat = 0 ∨ d.toNat = 1 ∨ d.toNat = 2 := by omega
  rcases this with h|h|h <;> rw [h] <;> decide
 exact Nat.le_trans h1 (by omega)
theorem Oi (bs:List UInt8){d:Int}(h:d ≤ 2) (p:Nat):cR (fB bs d p).1 ≤ 13:=by
 have h1 := Ic bs d.toNat p
 have h2 : Ht d.toNat ≤ 13 := by
  have : d.toNat = 0 ∨ d.toNat = 1 ∨ d.toNat = 2 := by omega
  rcases this with h|h|h <;> rw [h] <;> decide
 exact Nat.le_trans h1 h2
theorem x6 {one:Nat → AL.Stmt × Nat}(s:AL.Stmt) (p:Nat):∀ k,(iP one s p k).1.length = k + 1
 | 0 => rfl
 | k + 1 => by simp only [iP,List.length_append,x6 s p k,List.length_cons,List.length_nil]
theorem G6 (bs:List UInt8) (d:Int) (n p:Nat):(dX bs d (n:Int) p).1.length = n + 1 := x6 _ _ _
theorem NA (bs:List UInt8) (d:Int) (k p:Nat):dX bs d ((k + 1:Nat):Int) p = ((dX bs d (k:Int) p).1 ++ [(fB bs d (dX bs d (k:Int) p).2).1],(fB bs d (dX bs d (k:Int) p).2).2) := rfl
theorem CI {xs:List AL.Stmt}{m:Nat}{s:AL.Stmt}(hm:m = xs.length):((flat aN xs).drop 0).take (m * 6) ++ [iv s.op,iv s.x,iv s.y,iv s.n,sl aN s.th,sl aN s.el] = flat aN (xs ++ [s]) := eO hm (dA s).symm
def RA (s : AL.Stmt) (a : Int) : AL.Stmt := .mk a s.x s.y s.n s.th s.el
def uX (s : AL.Stmt) (a : Int) : AL.Stmt := .mk s.op a s.y s.n s.th s.el
def uY (s : AL.Stmt) (a : Int) : AL.Stmt := .mk s.op s.x a s.n s.th s.el
def uN (s : AL.Stmt) (a : Int) : AL.Stmt := .mk s.op s.x s.y a s.th s.el
theorem O8 {xs:List AL.Stmt}{k:Nat}{a:Int}(hk:k < xs.length):hZ (flat aN xs) (0 + k * 6 + 0) [iv a] = flat aN (xs.set k (RA xs[k]! a)) := eY hk (by simp) (by rw [dA,dA]; rfl)
theorem QR {xs:List AL.Stmt}{k:Nat}{a:Int}(hk:k < xs.length):hZ (flat aN xs) (0 + k * 6 + 1) [iv a] = flat aN (xs.set k (uX xs[k]! a)) := eY hk (by simp) (by rw [dA,dA]; rfl)
theorem QG {xs:List AL.Stmt}{k:Nat}{a:Int}(hk:k < xs.length):hZ (flat aN xs) (0 + k * 6 + 2) [iv a] = flat aN (xs.set k (uY xs[k]! a)) := eY hk (by simp) (by rw [dA,dA]; rfl)
theorem Qw {xs:List AL.Stmt}{k:Nat}{a:Int}(hk:k < xs.length):hZ (flat aN xs) (0 + k * 6 + 3) [iv a] = flat aN (xs.set k (uN xs[k]! a)) := eY hk (by simp) (by rw [dA,dA]; rfl)
theorem Ad (bs:List UInt8){d:Int}(h:d ≤ 2) (n:Int) (p:Nat):(dX bs d n p).2 ≤ p + 1 + n.toNat * 43 := zI (KB bs h) _ _ _
theorem KX (bs:List UInt8){d:Int}(h:d ≤ 2) (n:Int) (p:Nat):aT (dX bs d n p).1 ≤ 1 + n.toNat * 13:=by
 have h7 : cR (st 2 1 0 (bI bs p 10)) = 1 := by simp [st,cR,aT]
 have := Ab (Oi bs h) (st 2 1 0 (bI bs p 10)) (p + 1) n.toNat
 rw [h7] at this
 exact this
theorem DZ (bs:List UInt8){d:Int}(h:0 < d) (p:Nat):fB bs d p = 
  let c := bI bs (p + 1 + 1) 11
  if c = 9 then
   let r := dX bs (d - 1) (bI bs (p + 1 + 1 + 1) 3) (p + 1 + 1 + 1 + 1)
   let e := fB bs 0 r.2
   (.mk 9 0 0 0 r.1 [e.1],e.2)
  else if c = 10 then
   let a := fB bs 0 (p + 1 + 1 + 1)
   let b := fB bs 0 a.2
   (.mk 10 0 0 0 [a.1,b.1] [],b.2)
  else kE bs p := by
 have : d.toNat = (d - 1).toNat + 1 := by omega
 simp only [fB,this,xM,dX]
 rfl
theorem Rl (s:AL.Stmt):flat aN [s] = [iv s.op,iv s.x,iv s.y,iv s.n,sl aN s.th,sl aN s.el] := by simp [flat,dA]
theorem Qu (s t:AL.Stmt):flat aN [s,t] = [iv s.op,iv s.x,iv s.y,iv s.n,sl aN s.th,sl aN s.el,iv t.op,iv t.x,iv t.y,iv t.n,sl aN t.th,sl aN t.el] := by simp [flat,dA]
theorem P2 (bs:List UInt8){d:Int}(h0:0 ≤ d) (p:Nat) (h:¬ 0 < d ∨ (bI bs (p + 1 + 1) 11 ≠ 9 ∧ bI bs (p + 1 + 1) 11 ≠ 10)):fB bs d p = kE bs p:=by
 by_cases hd : 0 < d
 ·rw [DZ bs hd p]
  dsimp only
  rw [if_neg (by omega),if_neg (by omega)]
 ·have : d = 0 := by omega
  subst this;rfl
theorem PD (bs:List UInt8){d:Int}(hd:0 < d) (p:Nat) (h:bI bs (p + 1 + 1) 11 = 9):fB bs d p = (.mk 9 0 0 0 (dX bs (d - 1) (bI bs (p + 1 + 1 + 1) 3) (p + 1 + 1 + 1 + 1)).1 [(fB bs 0 (dX bs (d - 1) (bI bs (p + 1 + 1 + 1) 3) (p + 1 + 1 + 1 + 1)).2).1],(fB bs 0 (dX bs (d - 1) (bI bs (p + 1 + 1 + 1) 3) (p + 1 + 1 + 1 + 1)).2).2):=by
 rw [DZ bs hd p]
 dsimp only
 rw [if_pos h]
theorem Nk (bs:List UInt8){d:Int}(hd:0 < d) (p:Nat) (h:bI bs (p + 1 + 1) 11 = 10):fB bs d p = (.mk 10 0 0 0 [(fB bs 0 (p + 1 + 1 + 1)).1,(fB bs 0 (fB bs 0 (p + 1 + 1 + 1)).2).1] [],(fB bs 0 (fB bs 0 (p + 1 + 1 + 1)).2).2):=by
 rw [DZ bs hd p]
 dsimp only
 rw [if_neg (by omega),if_pos h]
theorem BO {bs:List UInt8}{p:Nat}{ts:List Int}{dp:Int}{x0 x1 x2:Operand}{i0:Nat}(ha0:ev (lk tsl) x0 = some (.optr i0 0)) (ha1:ev (lk tsl) x1 = some (sl cI ts)) (ha2:ev (lk tsl) x2 = some (iv dp)) (hH0:aU hsl i0 = some (fC bs p)) (hmc:MC Tryz.prog 219 [.optr 0 0,sl cI ts,iv dp] [(0,some (fC bs p))] 1 (fun _:Unit => True) (fun _ => fG (fB bs dp p).1) (fun _ => [(0,some (fC bs (fB bs dp p).2))])) (hM:Nat.ble (nidl + 0) aX = true) (hN:Nat.blt d N = true){md':Md}[hmd:MdA md (fP [x0,x1,x2] ++ [.inr i0]) (List.map Sum.inr (List.map Prod.fst ([(i0,some (fC bs (fB bs dp p).2))]:List (Nat × Option (List AV)))) ++ [.inl d]) md'] (kk:RW Tryz.prog N all Q md' rest ⟨(d,fG (fB bs dp p).1) :: tsl,gR hsl [(i0,some (fC bs (fB bs dp p).2))],nidl + 0,z0⟩):RW Tryz.prog N all Q md (⟨some d,.call ⟨.value (.func 219),#[x0,x1,x2],tys⟩,ty,pos,af,none⟩ :: rest) ⟨tsl,hsl,nidl,z0⟩:=by
 exact aZ (l := [x0,x1,x2]) [i0] 1 [(i0,some (fC bs (fB bs dp p).2))] hmc (avs := [.optr i0 0,sl cI ts,iv dp]) (by simp only [evL,ha0,ha1,ha2]) rfl hM hN (md' := md') (hmd := hmd) kk
theorem yE {bs:List UInt8}{p:Nat}{ts:List Int}{dp cn:Int}{x0 x1 x2 x3:Operand}{i0:Nat}(ha0:ev (lk tsl) x0 = some (.optr i0 0)) (ha1:ev (lk tsl) x1 = some (sl cI ts)) (ha2:ev (lk tsl) x2 = some (iv dp)) (ha3:ev (lk tsl) x3 = some (iv cn)) (hH0:aU hsl i0 = some (fC bs p)) (hmc:MC Tryz.prog 167 [.optr 0 0,sl cI ts,iv dp,iv cn] [(0,some (fC bs p))] 1 (fun _:Unit => True) (fun _ => sl aN (dX bs dp cn p).1) (fun _ => [(0,some (fC bs (dX bs dp cn p).2))])) (hM:Nat.ble (nidl + 0) aX = true) (hN:Nat.blt d N = true){md':Md}[hmd:MdA md (fP [x0,x1,x2,x3] ++ [.inr i0]) (List.map Sum.inr (List.map Prod.fst ([(i0,some (fC bs (dX bs dp cn p).2))]:List (Nat × Option (List AV)))) ++ [.inl d]) md'] (kk:RW Tryz.prog N all Q md' rest ⟨(d,sl aN (dX bs dp cn p).1) :: tsl,gR hsl [(i0,some (fC bs (dX bs dp cn p).2))],nidl + 0,z0⟩):RW Tryz.prog N all Q md (⟨some d,.call ⟨.value (.func 167),#[x0,x1,x2,x3],tys⟩,ty,pos,af,none⟩ :: rest) ⟨tsl,hsl,nidl,z0⟩:=by
 exact aZ (l := [x0,x1,x2,x3]) [i0] 1 [(i0,some (fC bs (dX bs dp cn p).2))] hmc (avs := [.optr i0 0,sl cI ts,iv dp,iv cn]) (by simp only [evL,ha0,ha1,ha2,ha3]) rfl hM hN (md' := md') (hmd := hmd) kk
attribute [local irreducible] bI
theorem CJ (D:Int) (hD0:0 ≤ D) (hD:D ≤ 2) (l1One_ih:∀ bs p ts,0 < D → bs.length ≤ 2000 → p ≤ 900000 → ∀ dp:Int,dp = 0 → MC Tryz.prog 219 [.optr 0 0,sl cI ts,iv dp] [(0,some (fC bs p))] 1 (fun _:Unit => True) (fun _ => fG (fB bs dp p).1) (fun _ => [(0,some (fC bs (fB bs dp p).2))])) (l1Some_ih:∀ bs (p:Nat) ts cn,0 < D → bs.length ≤ 2000 → (p:Int) ≤ 850000 - 100000 * (D - 1) → 0 ≤ cn → cn ≤ 2 → ∀ dp:Int,dp = D - 1 → MC Tryz.prog 167 [.optr 0 0,sl cI ts,iv dp,iv cn] [(0,some (fC bs p))] 1 (fun _:Unit => True) (fun _ => sl aN (dX bs dp cn p).1) (fun _ => [(0,some (fC bs (dX bs dp cn p).2))])) (bs:List UInt8) (p:Nat) (ts:List Int) (dp:Int) (hd:dp = D) (hb:bs.length ≤ 2000) (hp:(p:Int) ≤ 900000 - 100000 * D):MC Tryz.prog 219 [.optr 0 0,sl cI ts,iv dp] [(0,some (fC bs p))] 1 (fun _:Unit => True) (fun _ => fG (fB bs dp p).1) (fun _ => [(0,some (fC bs (fB bs dp p).2))]):=by
 subst hd
 have h0 := fA bs p 2
 have h2 := fA bs (p + 1 + 1) 11
 have h3 := fA bs (p + 1 + 1 + 1) 3
 have h3' := k3 bs (p + 1 + 1 + 1)
 have h4 := KB bs (d := 0) (by omega) (p + 1 + 1 + 1)
 have h5 := Ad bs (d := dp - 1) (by omega) (bI bs (p + 1 + 1 + 1) 3) (p + 1 + 1 + 1 + 1)
 have h6 : (bI bs (p + 1 + 1 + 1) 3).toNat * 43 ≤ 2 * 43 := Nat.mul_le_mul_right _ h3'
 refine aV Tryz.func219 Tryz.ntmps219 ?_
 repeat' (first|(apply aF;first|(apply aJ (t := _);rfl;rfl;rfl;(first|exact (rfl:_=some [_,_,_])|exact (rfl:_=some [_,_,_,_])|exact (rfl:_=some [_,_,_,_,_])|exact (rfl:_=some [_,_,_,_,_,_])|rfl);rfl;rfl)|(first|(apply l5;rfl;rfl;(rfl);(apply oU <;> (first|assumption|omega));rfl;rfl)|(apply P7;rfl;rfl;infer_instance;rfl;(rfl);assumption;omega;(decide);(decide);rfl;rfl)|(apply yE;rfl;rfl;rfl;rfl;(rfl);(apply l1Some_ih <;> (first|assumption|omega));rfl;rfl)|(apply BO;rfl;rfl;rfl;(rfl);(apply l1One_ih <;> (first|assumption|omega));rfl;rfl)))|refine aE ?_|(refine aK ?_ ?_ <;> intro hc hq <;> try (exfalso;omega))|fail)
 all_goals try (refine aD rfl ?_; refine aR () trivial ?_ ⟨sE ?_,trivial⟩)
 all_goals try (rw [P2 bs hD0 p (by omega)]; unfold kE; dsimp only; repeat' split
                all_goals (first|rfl|(exfalso;omega));done)
 iterate 2
  rewrite [PD bs (d := dp) (by assumption) p (by assumption)]
  first|rfl|(refine Eq.trans (b := AV.agg [_,_,_,_,_,AV.imm 1 (flat aN [_])]) ?_ rfl;rw [Rl]; rfl)
 iterate 2
  rewrite [Nk bs (d := dp) (by omega) p (by omega)]
  first|rfl|(refine Eq.trans (b := AV.agg [_,_,_,_,AV.imm 2 (flat aN [_,_]),_]) ?_ rfl;rw [Qu]; rfl)
theorem yM (D:Int) (hD0:0 ≤ D) (hD:D ≤ 2) (l1One_ih:∀ bs (p:Nat) ts,bs.length ≤ 2000 → (p:Int) ≤ 900000 - 100000 * D → ∀ dp:Int,dp = D → MC Tryz.prog 219 [.optr 0 0,sl cI ts,iv dp] [(0,some (fC bs p))] 1 (fun _:Unit => True) (fun _ => fG (fB bs dp p).1) (fun _ => [(0,some (fC bs (fB bs dp p).2))])) (bs:List UInt8) (p:Nat) (ts:List Int) (dp:Int) (hd:dp = D) (cn:Int) (hb:bs.length ≤ 2000) (hp:(p:Int) ≤ 850000 - 100000 * D) (hc0:0 ≤ cn) (hc:cn ≤ 8):MC Tryz.prog 167 [.optr 0 0,sl cI ts,iv dp,iv cn] [(0,some (fC bs p))] 1 (fun _:Unit => True) (fun _ => sl aN (dX bs dp cn p).1) (fun _ => [(0,some (fC bs (dX bs dp cn p).2))]):=by
 subst hd
 refine aV Tryz.func167 Tryz.ntmps167 ?_
 repeat' (first|(apply aF;(apply l5;rfl;rfl;(rfl);(apply oU <;> (first|assumption|omega));rfl;rfl))|refine aE ?_|fail)
 refine aH (σ := Nat × List AL.Stmt × Nat) [0,1,2,3] [] (fun k => [(10,iv (k.1 : Int)),(9,.own 1 0 (k.1 + 1) 6)]) (fun k => [(0,some (fC bs k.2.2)),(1,some (flat aN k.2.1))]) (fun k => (k.1 : Int) ≤ cn ∧ k.2 = dX bs dp (k.1 : Int) p) (fun k => cn.toNat - k.1) (0,[st 2 1 0 (bI bs p 10)],p + 1) ⟨by omega,rfl⟩ ?_
 rintro ⟨k,xs,q⟩ ⟨hk,hse⟩
 dsimp only at hk hse ⊢
 have hp2 := Ad bs (d := dp) (by omega) (k : Int) p
 have hkk : (k : Int).toNat * 43 ≤ 8 * 43 := Nat.mul_le_mul_right _ (by omega)
 have hln := G6 bs dp k p
 rw [← hse] at hp2 hln
 dsimp only at hp2 hln
 repeat' (first|(apply aF;first|(apply aJ (t := _);rfl;rfl;rfl;(exact (rfl:_=some [_,_,_,_,_,_]));rfl;rfl)|(apply BO;rfl;rfl;rfl;(rfl);(apply l1One_ih <;> (first|assumption|omega));rfl;rfl))|refine aE ?_|(refine aK ?_ ?_ <;> intro hc hq <;> try (exfalso;omega))|fail)
 ·(refine bE (k + 1, _, _) (Le.renA [(1, 3)]) ?_ ?_)
  ·dsimp only
   refine ⟨by omega,?_⟩
   rw [NA,← hse]
  ·dsimp only;omega
 ·have hke : (k : Int) = cn := by omega
  rw [hke] at hse
  (refine aS (Le.frzD (d := 8) (i := 1) rfl rfl) ?_; refine aD rfl ?_)
  refine aR () trivial ?_ ⟨sE ?_,trivial⟩
  ·rw [← hse]; show AV.imm (k + 1) (flat aN xs) = AV.imm xs.length (flat aN xs)
   rw [hln]
  ·rw [← hse]
theorem oZ:∀ D:Nat,D ≤ 2 → (∀ bs (p:Nat) ts,bs.length ≤ 2000 → (p:Int) ≤ 900000 - 100000 * (D:Int) → ∀ dp:Int,dp = (D:Int) → MC Tryz.prog 219 [.optr 0 0,sl cI ts,iv dp] [(0,some (fC bs p))] 1 (fun _:Unit => True) (fun _ => fG (fB bs dp p).1) (fun _ => [(0,some (fC bs (fB bs dp p).2))])) ∧ (∀ bs (p:Nat) ts (cn:Int),bs.length ≤ 2000 → (p:Int) ≤ 850000 - 100000 * (D:Int) → 0 ≤ cn → cn ≤ 8 → ∀ dp:Int,dp = (D:Int) → MC Tryz.prog 167 [.optr 0 0,sl cI ts,iv dp,iv cn] [(0,some (fC bs p))] 1 (fun _:Unit => True) (fun _ => sl aN (dX bs dp cn p).1) (fun _ => [(0,some (fC bs (dX bs dp cn p).2))]))
 | 0, _ => by
  have h1 : ∀ bs (p : Nat) ts, bs.length ≤ 2000 → (p : Int) ≤ 900000 - 100000 * ((0 : Nat) : Int) → ∀ dp : Int, dp = ((0 : Nat) : Int) → MC Tryz.prog 219 [.optr 0 0, sl cI ts, iv dp] [(0, some (fC bs p))] 1 (fun _ : Unit => True) (fun _ => fG (fB bs dp p).1) (fun _ => [(0, some (fC bs (fB bs dp p).2))]) :=
   fun bs p ts hb hp dp hd => CJ ((0 : Nat) : Int) (by omega) (by omega) (fun _ _ _ h => by omega) (fun _ _ _ _ h => by omega) bs p ts dp hd hb hp
  exact ⟨h1,fun bs p ts cn hb hp h0 h8 dp hd => yM ((0 : Nat) : Int) (by omega) (by omega) h1 bs p ts dp hd cn hb hp h0 h8⟩
 | D + 1, hD => by
  have ih := oZ D (by omega)
  have i0 := oZ 0 (by omega)
  have h1 : ∀ bs (p : Nat) ts, bs.length ≤ 2000 → (p : Int) ≤ 900000 - 100000 * ((D + 1 : Nat) : Int) → ∀ dp : Int, dp = ((D + 1 : Nat) : Int) → MC Tryz.prog 219 [.optr 0 0, sl cI ts, iv dp] [(0, some (fC bs p))] 1 (fun _ : Unit => True) (fun _ => fG (fB bs dp p).1) (fun _ => [(0, some (fC bs (fB bs dp p).2))]) :=
   fun bs p ts hb hp dp hd => CJ ((D + 1 : Nat) : Int) (by omega) (by omega) (fun bs p ts _ hb hp dp hd => i0.1 bs p ts hb (by omega) dp (by omega)) (fun bs p ts cn _ hb hp h0 h2 dp hd => ih.2 bs p ts cn hb (by omega) h0 (by omega) dp (by omega)) bs p ts dp hd hb hp
  exact ⟨h1,fun bs p ts cn hb hp h0 h8 dp hd => yM ((D + 1 : Nat) : Int) (by omega) (by omega) h1 bs p ts dp hd cn hb hp h0 h8⟩
theorem Ky (bs:List UInt8) (p:Nat) (ts:List Int) (dp cn:Int) (hb:bs.length ≤ 2000) (hp:p ≤ 600000) (h0:0 ≤ cn) (h8:cn ≤ 8) (hd0:0 ≤ dp) (hd:dp ≤ 2):MC Tryz.prog 167 [.optr 0 0,sl cI ts,iv dp,iv cn] [(0,some (fC bs p))] 1 (fun _:Unit => True) (fun _ => sl aN (dX bs dp cn p).1) (fun _ => [(0,some (fC bs (dX bs dp cn p).2))]) :=
 (oZ dp.toNat (by omega)).2 bs p ts cn hb (by omega) h0 h8 dp (by omega)
end Go.Proofs.YtahdccneecdmmaaGreat
namespace Go.Proofs.YtahdccneecdmmaaGreat
open Go.AL Go.RowKit
variable {N : Nat} {Q : Exit → AS → Prop} {all : Array Oper} {rest : List Oper} {tsl : List (Nat × AV)} {hsl : List (Nat × Option (List AV))} {nidl : Nat} {z0 : Lo} {md : Md} {d : Nat} {ty : TypeId} {pos : String} {af : Array Edge} {tys : Array TypeId}
theorem E5 {w:World}{bad:Nat → Prop}{ι:Pl}:∀ {cs cs':List AV},All2 (fun c c' => c' = c ∨ c' = rH c) cs cs' → ∀ {b β:Nat},RdC w bad ι cs b β → RdC w bad ι cs' b β
 | _,_,.nil,_,_,h => h
 | _, _, .cons h1 h2, b, β, h => by
  simp only [RdC] at h ⊢
  obtain ⟨⟨x,q1,q2,q3⟩,q4⟩ := h
  refine ⟨⟨x,q1,q2,?_⟩,E5 h2 q4⟩
  rcases h1 with rfl|rfl
  ·exact q3
  ·exact m5 q3
theorem EI:∀ (l:List AV){a b:List AV},All2 (fun c c' => c' = c ∨ c' = rH c) a b → All2 (fun c c' => c' = c ∨ c' = rH c) (l ++ a) (l ++ b)
 | [],_,_,h => h
 | _ :: l,_,_,h => .cons (.inl rfl) (EI l h)
theorem rV {α:Type}{p q:α → Prop}{F:α → AS}{s s':AS}(L:Le s s') (h:∃ j,p j ∧ q j ∧ Le s' (F j)):∃ j,p j ∧ q j ∧ Le s (F j):=by
 obtain ⟨j,h1,h2,h3⟩ := h
 exact ⟨j,h1,h2,L.trans h3⟩
theorem Le.stmtN {ts:List (Nat × AV)}{hs:List (Nat × Option (List AV))}{n i:Nat}{z0:Lo}{xs:List AL.Stmt}(s:AL.Stmt){m:Nat}{a b:AV}(hm:m = xs.length)
  (ha : a = sl aN s.th ∨ (a = .v (.slice none 0 0) ∧ s.th = [])) (hb : b = sl aN s.el ∨ (b = .v (.slice none 0 0) ∧ s.el = []))
  (hi : aU hs i = some (((flat aN xs).drop 0).take (m * 6) ++ List.take (1 * 6) [iv s.op,iv s.x,iv s.y,iv s.n,a,b])) : Le ⟨ts,hs,n,z0⟩ ⟨ts,(i,some (flat aN (xs ++ [s]))) :: hs,n,z0⟩ := by
 have e : flat aN (xs ++ [s]) = ((flat aN xs).drop 0).take (m * 6) ++ [iv s.op,iv s.x,iv s.y,iv s.n,sl aN s.th,sl aN s.el] := (CI hm).symm
 have k : All2 (fun c c' => c' = c ∨ c' = rH c) (((flat aN xs).drop 0).take (m * 6) ++ List.take (1 * 6) [iv s.op, iv s.x, iv s.y, iv s.n, a, b]) (flat aN (xs ++ [s])) := by
  rw [e]
  refine EI _ (.cons (.inl rfl) (.cons (.inl rfl) (.cons (.inl rfl) (.cons (.inl rfl) (.cons ?_ (.cons ?_ .nil))))))
  ·rcases ha with h | ⟨h, h2⟩
   ·exact .inl h.symm
   ·refine .inr ?_; rw [h2,h]; rfl
  ·rcases hb with h | ⟨h, h2⟩
   ·exact .inl h.symm
   ·refine .inr ?_; rw [h2,h]; rfl
 refine Le.cells hi ?_ fun w bad ι b β h => E5 k h
 rw [e]; simp
theorem Ev (mm:Nat) (hmm:mm ≤ 1000000) (copy_ih:∀ l,aT l < mm → PC Tryz.prog 131 [sl aN l] (fun r => r = sl aN l)) (l:List AL.Stmt) (hs:aT l ≤ mm):PC Tryz.prog 131 [sl aN l] (fun r => r = sl aN l):=by
 have hlen := eI l
 refine aC Tryz.func131 Tryz.ntmps131 ?_
 repeat' (first|refine aE ?_|fail)
 refine aH (σ := Nat × List AL.Stmt) [0] [] (fun k => [(4,iv (k.1 : Int)),(3,.own 0 0 k.1 6)]) (fun k => [(0,some (flat aN k.2))]) (fun k => k.1 ≤ l.length ∧ k.2 = l.take k.1) (fun k => l.length - k.1) (0,[]) ⟨by omega,rfl⟩ ?_
 rintro ⟨k,xs⟩ ⟨hk,hxs⟩
 dsimp only at hk hxs ⊢
 have hck := gV l k
 have hct := lY l[k]!
 have hln : xs.length = k := by rw [hxs,List.length_take]; omega
 repeat' (first|(apply aF;first|(apply aJ (t := _);rfl;rfl;rfl;(exact (rfl:_=some [_,_,_,_,_,_]));rfl;rfl)|(apply aA (k := 131);rfl;(apply copy_ih <;> (omega));exact Pur.pf;rfl))|refine aE ?_|(refine aK ?_ ?_ <;> intro hc hq <;> try (exfalso;omega))|fail)
 ·(refine bE (k + 1, _) (Le.renA [(0, 3)]) ?_ ?_)
  ·exact ⟨by dsimp only;omega,by dsimp only;rw [hxs,bG l k (by omega)]⟩
  ·dsimp only;omega
 ·have hel : l[k]!.el = [] := List.eq_nil_of_length_eq_zero (by omega)
  refine rV (Le.stmtN (i := 3) l[k]! hln.symm (.inl rfl) (.inr ⟨rfl,hel⟩) rfl) ?_
  (refine bE (k + 1,_) (Le.renA [(0,3)]) ?_ ?_)
  ·exact ⟨by dsimp only;omega,by dsimp only;rw [hxs,bG l k (by omega)]⟩
  ·dsimp only;omega
 ·have hth : l[k]!.th = [] := List.eq_nil_of_length_eq_zero (by omega)
  refine rV (Le.stmtN (i := 3) l[k]! hln.symm (.inr ⟨rfl,hth⟩) (.inl rfl) rfl) ?_
  (refine bE (k + 1,_) (Le.renA [(0,3)]) ?_ ?_)
  ·exact ⟨by dsimp only;omega,by dsimp only;rw [hxs,bG l k (by omega)]⟩
  ·dsimp only;omega
 ·have hth : l[k]!.th = [] := List.eq_nil_of_length_eq_zero (by omega)
  have hel : l[k]!.el = [] := List.eq_nil_of_length_eq_zero (by omega)
  refine rV (Le.stmtN (i := 3) l[k]! hln.symm (.inr ⟨rfl,hth⟩) (.inr ⟨rfl,hel⟩) rfl) ?_
  (refine bE (k + 1,_) (Le.renA [(0,3)]) ?_ ?_)
  ·exact ⟨by dsimp only;omega,by dsimp only;rw [hxs,bG l k (by omega)]⟩
  ·dsimp only;omega
 ·have hke : k = l.length := by omega
  (refine aS (Le.frzD (d := 2) (i := 0) rfl rfl) ?_; refine aD rfl ?_)
  refine ⟨?_,Pur.pf⟩
  rw [hxs,hke,List.take_length]; rfl
theorem Qb (l:List AL.Stmt) (hb:aT l ≤ 1000000):PC Tryz.prog 131 [sl aN l] (fun r => r = sl aN l):=by
 have key : ∀ m, m ≤ 1000000 → ∀ l, aT l ≤ m → PC Tryz.prog 131 [sl aN l] (fun r => r = sl aN l) := by
  intro m
  induction m with
  | zero => intro hm l hl;exact Ev 0 hm (fun l h => by omega) l hl
  | succ m ih => intro hm l hl;exact Ev (m + 1) hm (fun l h => ih (by omega) l (by omega)) l hl
 exact key (aT l) hb l (Nat.le_refl _)
theorem No (l:List AL.Stmt) (hs:aT l ≤ 1000000):MC Tryz.prog 131 [sl aN l] [] 0 (fun _:Unit => True) (fun _ => .own 0 0 l.length 6) (fun _ => [(0,some (flat aN l))]):=by
 have hlen := eI l
 refine aV Tryz.func131 Tryz.ntmps131 ?_
 repeat' (first|refine aE ?_|fail)
 refine aH (σ := Nat × List AL.Stmt) [0] [] (fun k => [(4,iv (k.1 : Int)),(3,.own 0 0 k.1 6)]) (fun k => [(0,some (flat aN k.2))]) (fun k => k.1 ≤ l.length ∧ k.2 = l.take k.1) (fun k => l.length - k.1) (0,[]) ⟨by omega,rfl⟩ ?_
 rintro ⟨k,xs⟩ ⟨hk,hxs⟩
 dsimp only at hk hxs ⊢
 have hck := gV l k
 have hct := lY l[k]!
 have hln : xs.length = k := by rw [hxs,List.length_take]; omega
 repeat' (first|(apply aF;first|(apply aJ (t := _);rfl;rfl;rfl;(exact (rfl:_=some [_,_,_,_,_,_]));rfl;rfl)|(apply aA (k := 131);rfl;(apply Qb <;> (omega));exact Pur.pf;rfl))|refine aE ?_|(refine aK ?_ ?_ <;> intro hc hq <;> try (exfalso;omega))|fail)
 ·(refine bE (k + 1, _) (Le.renA [(0, 3)]) ?_ ?_)
  ·exact ⟨by dsimp only;omega,by dsimp only;rw [hxs,bG l k (by omega)]⟩
  ·dsimp only;omega
 ·have hel : l[k]!.el = [] := List.eq_nil_of_length_eq_zero (by omega)
  refine rV (Le.stmtN (i := 3) l[k]! hln.symm (.inl rfl) (.inr ⟨rfl,hel⟩) rfl) ?_
  (refine bE (k + 1,_) (Le.renA [(0,3)]) ?_ ?_)
  ·exact ⟨by dsimp only;omega,by dsimp only;rw [hxs,bG l k (by omega)]⟩
  ·dsimp only;omega
 ·have hth : l[k]!.th = [] := List.eq_nil_of_length_eq_zero (by omega)
  refine rV (Le.stmtN (i := 3) l[k]! hln.symm (.inr ⟨rfl,hth⟩) (.inl rfl) rfl) ?_
  (refine bE (k + 1,_) (Le.renA [(0,3)]) ?_ ?_)
  ·exact ⟨by dsimp only;omega,by dsimp only;rw [hxs,bG l k (by omega)]⟩
  ·dsimp only;omega
 ·have hth : l[k]!.th = [] := List.eq_nil_of_length_eq_zero (by omega)
  have hel : l[k]!.el = [] := List.eq_nil_of_length_eq_zero (by omega)
  refine rV (Le.stmtN (i := 3) l[k]! hln.symm (.inr ⟨rfl,hth⟩) (.inr ⟨rfl,hel⟩) rfl) ?_
  (refine bE (k + 1,_) (Le.renA [(0,3)]) ?_ ?_)
  ·exact ⟨by dsimp only;omega,by dsimp only;rw [hxs,bG l k (by omega)]⟩
  ·dsimp only;omega
 ·have hke : k = l.length := by omega
  have hxl : xs = l := by rw [hxs,hke,List.take_length]
  subst hke
  refine aD rfl ?_
  refine aR () trivial ?_ ⟨sE ?_,trivial⟩
  ·rfl
  ·rw [hxl]
theorem KC {l:List AL.Stmt}{x0:Operand}(ha0:ev (lk tsl) x0 = some (sl aN l)) (hmc:MC Tryz.prog 131 [sl aN l] [] 0 (fun _:Unit => True) (fun _ => .own 0 0 l.length 6) (fun _ => [(0,some (flat aN l))])) (hM:Nat.ble (nidl + 1) aX = true) (hN:Nat.blt d N = true){md':Md}[hmd:MdA md (fP [x0] ++ []) (List.map Sum.inr (List.map Prod.fst ([(nidl,some (flat aN l))]:List (Nat × Option (List AV)))) ++ [.inl d]) md'] (kk:RW Tryz.prog N all Q md' rest ⟨(d,.own nidl 0 l.length 6) :: tsl,gR hsl [(nidl,some (flat aN l))],nidl + 1,z0⟩):RW Tryz.prog N all Q md (⟨some d,.call ⟨.value (.func 131),#[x0],tys⟩,ty,pos,af,none⟩ :: rest) ⟨tsl,hsl,nidl,z0⟩:=by
 exact aZ (l := [x0]) [] 1 [(nidl,some (flat aN l))] hmc (avs := [sl aN l]) (by simp only [evL,ha0]) rfl hM hN (md' := md') (hmd := hmd) kk
theorem G8 {q:Prg}{x0:Operand}(ha0:ev (lk tsl) x0 = some (b8 q)) (hmc:MC Tryz.prog 63 [b8 q] [] 0 (fun _:Unit => True) (fun _ => .agg [.own 3 0 q.types.length 1,.own 4 0 q.body.length 6]) (fun _ => [(3,some (flat cI q.types)),(4,some (flat aN q.body))])) (hM:Nat.ble (nidl + 5) aX = true) (hN:Nat.blt d N = true){md':Md}[hmd:MdA md (fP [x0] ++ []) (List.map Sum.inr (List.map Prod.fst ([((nidl + 3),some (flat cI q.types)),((nidl + 4),some (flat aN q.body))]:List (Nat × Option (List AV)))) ++ [.inl d]) md'] (kk:RW Tryz.prog N all Q md' rest ⟨(d,.agg [.own (nidl + 3) 0 q.types.length 1,.own (nidl + 4) 0 q.body.length 6]) :: tsl,gR hsl [((nidl + 3),some (flat cI q.types)),((nidl + 4),some (flat aN q.body))],nidl + 5,z0⟩):RW Tryz.prog N all Q md (⟨some d,.call ⟨.value (.func 63),#[x0],tys⟩,ty,pos,af,none⟩ :: rest) ⟨tsl,hsl,nidl,z0⟩:=by
 exact aZ (l := [x0]) [] 5 [((nidl + 3),some (flat cI q.types)),((nidl + 4),some (flat aN q.body))] hmc (avs := [b8 q]) (by simp only [evL,ha0]) rfl hM hN (md' := md') (hmd := hmd) kk
theorem HS (q:Prg) (hs:aT q.body ≤ 1000000) (ht:q.types.length ≤ 1000000):MC Tryz.prog 63 [b8 q] [] 0 (fun _:Unit => True) (fun _ => .agg [.own 3 0 q.types.length 1,.own 4 0 q.body.length 6]) (fun _ => [(3,some (flat cI q.types)),(4,some (flat aN q.body))]):=by
 refine aV Tryz.func63 Tryz.ntmps63 ?_
 repeat' (first|(apply aF;(apply KC;rfl;(apply No;assumption);rfl;rfl))|refine aE ?_|refine bQ ?_|fail)
 refine aD rfl ?_
 refine aR () trivial ?_ ⟨sE ?_,sE ?_,trivial⟩
 ·show AV.agg [AV.own 3 0 (0 + q.types.length) 1, AV.own 4 0 q.body.length 6] = _
  rw [Nat.zero_add]
 ·rfl
 ·rfl
theorem Jg (s:AL.Stmt) (a:Int):cR (RA s a) = cR s := by simp [gU,RA,AL.Stmt.th,AL.Stmt.el]
theorem LA (s:AL.Stmt) (a:Int):cR (uX s a) = cR s := by simp [gU,uX,AL.Stmt.th,AL.Stmt.el]
theorem M1 (s:AL.Stmt) (a:Int):cR (uY s a) = cR s := by simp [gU,uY,AL.Stmt.th,AL.Stmt.el]
theorem Ng (s:AL.Stmt) (a:Int):cR (uN s a) = cR s := by simp [gU,uN,AL.Stmt.th,AL.Stmt.el]
theorem nB:∀ (xs:List AL.Stmt) (k:Nat) (y:AL.Stmt),k < xs.length → cR y = cR xs[k]! → aT (xs.set k y) = aT xs
 | [],k,y,h,_ => by simp at h
 | x :: xs,0,y,_,h => by simp only [List.set_cons_zero,aT]; simp only [List.getElem!_cons_zero] at h;omega
 | x :: xs, k + 1, y, h, h2 => by
  simp only [List.set_cons_succ,aT]
  rw [nB xs k y (by simpa using h) (by rw [h2]; simp only [List.getElem!_cons_succ])]
theorem BR (s:AL.Stmt):∀ k,aT (List.replicate k s) = k * cR s
 | 0 => by simp [aT]
 | k + 1 => by simp only [List.replicate_succ,aT,BR s k,Nat.succ_mul]; omega
theorem Bn:∀ (xs:List AL.Stmt) (k:Nat),aT (xs.take k ++ xs.drop (k + 1)) ≤ aT xs
 | [],k => by simp [aT]
 | x :: xs,0 => by simp [aT]
 | x :: xs,k + 1 => by have := Bn xs k;simp only [List.take_succ_cons,List.drop_succ_cons,List.cons_append,aT]; omega
theorem tS {T:Nat → Option AV}{x:Operand}{dd:Nat}{k:IntKind}{m:Int}(hx:ev T x = some (.v (.int k m))) (h:0 ≤ m):g9 T (some x) dd = some m.toNat:=by
 simp only [g9,hx]; rw [if_pos h]
section
variable {P : Program} {N : Nat} {Q : Exit → AS → Prop} {all : Array Oper} {rest : List Oper} {ts : List (Nat × AV)} {hs : List (Nat × Option (List AV))} {n : Nat} {z0 : Lo} {md : Md}
variable {d : Nat} {ty : TypeId} {pos : String} {af : Array Edge}
theorem Ec {t el:TypeId}{x:Operand}{hi:Option Operand}{i o m e h:Nat}[ht:SlT P t el] [he:SzT P el e] (hx:ev (lk ts) x = some (.own i o m e))
  (hh : g9 (lk ts) hi m = some h) (hb : h ≤ m) (hN : Nat.blt d N = true) {md' : Md} [hmd : MdA md (rO x ++ (rB none ++ rB hi)) [.inl d] md'] (kk : RW P N all Q md' rest ⟨(d,.own i o h e) :: ts,hs,n,z0⟩) :
  RW P N all Q md (⟨some d,.slice t x none hi none,ty,pos,af,none⟩ :: rest) ⟨ts,hs,n,z0⟩ :=
 iU (m := m) (l := 0) (h := h) hx rfl rfl hh (by simp [Pe,hb]) hN (md' := md') (hmd := hmd) kk
end
theorem LB {hs:List (Nat × Option (List AV))}{xs:List AL.Stmt}{i k n:Nat}(hH:aU hs i = some (flat aN xs)) (hn:n = xs.length - k):sCells (aU hs) 6 (rH (.own i (0 + k * 6) n 6)) = some (n,flat aN (xs.drop k)):=by
 show ((aU hs i).bind fun cs => if n * 6 ≤ (cs.drop (0 + k * 6)).length then some (n,(cs.drop (0 + k * 6)).take (n * 6)) else none) = _
 rw [hH,Option.bind_some,Nat.zero_add]
 have h1 : (flat aN xs).length = xs.length * 6 := aI aN xs
 have h3 : (flat aN xs).drop (k * 6) = flat aN (xs.drop k) := by
  have h4 : flat aN xs = flat aN (xs.take k) ++ flat aN (xs.drop k) := by rw [cP,List.take_append_drop]
  have h5 : (flat aN (xs.take k)).length = (xs.take k).length * 6 := aI aN _
  by_cases hk : k ≤ xs.length
  ·rw [h4,← show (flat aN (xs.take k)).length = k * 6 from by rw [h5,List.length_take]; congr 1;omega,List.drop_left]
  ·rw [List.drop_of_length_le (by omega),List.drop_of_length_le (by omega)]; rfl
 rw [h3]
 have h2 : (flat aN (xs.drop k)).length = (xs.length - k) * 6 := by rw [aI aN (e := 6),List.length_drop]
 rw [if_pos (by omega),List.take_of_length_le (by omega)]
theorem K3 {xs ys:List AL.Stmt}{k:Nat}(hk:k ≤ xs.length):((flat aN xs).drop 0).take (k * 6) ++ flat aN ys = flat aN (xs.take k ++ ys):=by
 rw [List.drop_zero,eV aN (e := 6),cP]
theorem II (bs:List UInt8) (p:Nat) (q:Prg) (hb:bs.length ≤ 2000) (hp:p ≤ 900000) (hs:aT q.body ≤ 10000) (ht:q.types.length ≤ 10000):MC Tryz.prog 93 [.optr 0 0,b8 q] [(0,some (fC bs p))] 1 (fun x:Prg × Nat => aT x.1.body ≤ 32 * aT q.body ∧ x.1.types.length ≤ q.types.length + 1 ∧ x.2 ≤ p + 3) (fun x => b8 x.1) (fun x => [(0,some (fC bs x.2))]):=by
 have hlen := eI q.body
 have h0 := fA bs p (q.body.length : Int)
 refine aV Tryz.func93 Tryz.ntmps93 ?_
 repeat' (first|(apply aF;(first|(apply l5;rfl;rfl;(rfl);(apply oU <;> (first|assumption|omega));rfl;rfl)|(apply E1;rfl;rfl;rfl;rfl;infer_instance;rfl;(rfl);assumption;omega;(decide);(decide);rfl;rfl)|(apply G8;rfl;(apply HS <;> (omega));rfl;rfl)))|refine aE ?_|(refine aK ?_ ?_ <;> intro hc hq <;> try (exfalso;omega))|refine bQ ?_|fail)
 ·refine aS (Le.frzC (j := 2) (i := 6) [] rfl rfl (by decide)) ?_
  refine aS (Le.frzC (j := 2) (i := 7) [.imm _ _] rfl rfl (by decide)) ?_
  refine aD rfl ?_
  refine aR ((⟨q.types,q.body⟩ : Prg),p) ?_ ?_ ⟨sE ?_,trivial⟩
  ·exact ⟨by dsimp only;omega,by dsimp only;omega,by dsimp only;omega⟩
  ·rfl
  ·rfl
 ·refine aS (Le.frzC (j := 2) (i := 6) [] rfl rfl (by decide)) ?_
  refine aS (Le.frzC (j := 2) (i := 7) [.imm _ _] rfl rfl (by decide)) ?_
  refine aD rfl ?_
  refine aR ((⟨q.types,q.body.set (bI bs p (q.body.length : Int)).toNat (RA q.body[(bI bs p (q.body.length : Int)).toNat]! (jH bs (p + 1 + 1) [0,11,1,3,8]))⟩ : Prg),p + 1 + 1 + 1) ?_ ?_ ⟨sE ?_,trivial⟩
  ·refine ⟨?_,by dsimp only;omega,by dsimp only;omega⟩; dsimp only;rw [nB q.body (bI bs p (q.body.length : Int)).toNat _ (by omega) (by rw [Jg])]; omega
  ·show _ = AV.agg [_,AV.imm (List.length (q.body.set _ _)) _]; rw [List.length_set]; rfl
  ·rfl
 ·refine aS (Le.frzC (j := 2) (i := 6) [] rfl rfl (by decide)) ?_
  refine aS (Le.frzC (j := 2) (i := 7) [.imm _ _] rfl rfl (by decide)) ?_
  refine aD rfl ?_
  refine aR ((⟨q.types,q.body.set (bI bs p (q.body.length : Int)).toNat (uX q.body[(bI bs p (q.body.length : Int)).toNat]! (jH bs (p + 1 + 1) [6,-1,0,1]))⟩ : Prg),p + 1 + 1 + 1) ?_ ?_ ⟨sE ?_,trivial⟩
  ·refine ⟨?_,by dsimp only;omega,by dsimp only;omega⟩; dsimp only;rw [nB q.body (bI bs p (q.body.length : Int)).toNat _ (by omega) (by rw [LA])]; omega
  ·show _ = AV.agg [_,AV.imm (List.length (q.body.set _ _)) _]; rw [List.length_set]; rfl
  ·rfl
 ·refine aS (Le.frzC (j := 2) (i := 6) [] rfl rfl (by decide)) ?_
  refine aS (Le.frzC (j := 2) (i := 7) [.imm _ _] rfl rfl (by decide)) ?_
  refine aD rfl ?_
  refine aR ((⟨q.types,q.body.set (bI bs p (q.body.length : Int)).toNat (uY q.body[(bI bs p (q.body.length : Int)).toNat]! (jH bs (p + 1 + 1) [6,-1,0,1]))⟩ : Prg),p + 1 + 1 + 1) ?_ ?_ ⟨sE ?_,trivial⟩
  ·refine ⟨?_,by dsimp only;omega,by dsimp only;omega⟩; dsimp only;rw [nB q.body (bI bs p (q.body.length : Int)).toNat _ (by omega) (by rw [M1])]; omega
  ·show _ = AV.agg [_,AV.imm (List.length (q.body.set _ _)) _]; rw [List.length_set]; rfl
  ·rfl
 ·refine aS (Le.frzC (j := 2) (i := 6) [] rfl rfl (by decide)) ?_
  refine aS (Le.frzC (j := 2) (i := 7) [.imm _ _] rfl rfl (by decide)) ?_
  refine aD rfl ?_
  refine aR ((⟨q.types,q.body.set (bI bs p (q.body.length : Int)).toNat (uN q.body[(bI bs p (q.body.length : Int)).toNat]! (jH bs (p + 1 + 1) [10,-1,5]))⟩ : Prg),p + 1 + 1 + 1) ?_ ?_ ⟨sE ?_,trivial⟩
  ·refine ⟨?_,by dsimp only;omega,by dsimp only;omega⟩; dsimp only;rw [nB q.body (bI bs p (q.body.length : Int)).toNat _ (by omega) (by rw [Ng])]; omega
  ·show _ = AV.agg [_,AV.imm (List.length (q.body.set _ _)) _]; rw [List.length_set]; rfl
  ·rfl
 ·refine aS (Le.frzC (j := 2) (i := 11) [] rfl rfl (by decide)) ?_
  refine aS (Le.frzC (j := 2) (i := 7) [.imm _ _] rfl rfl (by decide)) ?_
  refine aD rfl ?_
  refine aR ((⟨q.types ++ [jH bs (p + 1 + 1) [1,5,0,4]],q.body⟩ : Prg),p + 1 + 1 + 1) ?_ ?_ ⟨sE ?_,trivial⟩
  ·exact ⟨by dsimp only;omega,by simp,by dsimp only;omega⟩
  ·show _ = AV.agg [AV.imm (List.length (q.types ++ [_])) _,_]; rw [List.length_append]; rfl
  ·rfl
 ·refine aH (σ := Nat × List AL.Stmt × Nat) [4, 5] [6, 2, 0] (fun k => [(7, iv (k.1 : Int))]) (fun k => [(7, some (flat aN k.2.1)), (8, some [.own 6 0 q.types.length 1, .own 7 0 k.2.2 6])]) (fun k => k.1 ≤ 31 ∧ k.2.1 = q.body ++ List.replicate k.1 q.body[0]! ∧ k.2.2 = k.2.1.length) (fun k => 31 - k.1) (0, q.body, q.body.length) ⟨by omega, by simp, rfl⟩ ?_
  rintro ⟨k,xs,m⟩ ⟨hk,hxs,hm⟩
  dsimp only at hk hxs hm ⊢
  have hln : 0 < xs.length := by rw [hxs,List.length_append]; omega
  have hl2 : xs.length = q.body.length + k := by rw [hxs,List.length_append,List.length_replicate]
  repeat' (first|refine aE ?_|(refine aK ?_ ?_ <;> intro hc hq <;> try (exfalso;omega))|refine bQ ?_|fail)
  ·(refine bE (k + 1, _, _) (Le.renA [(7, 10), (8, 8), (6, 6), (2, 2)]) ?_ ?_)
   ·dsimp only
    refine ⟨by omega,?_,by simp [hm]⟩
    have e0 : xs[Int.toNat 0]! = q.body[0]! := by
     show xs[0]! = _
     rw [hxs,getElem!_pos _ _ (by rw [List.length_append]; omega),List.getElem_append_left (by omega),getElem!_pos _ _ (by omega)]
    rw [e0,hxs,List.replicate_succ',List.append_assoc]
   ·dsimp only;omega
  ·have hc0 : cR q.body[0]! ≤ aT q.body := gV q.body 0 (by omega)
   have hc1 : aT xs = aT q.body + k * cR q.body[0]! := by rw [hxs,gI,BR]
   have hc2 : k * cR q.body[0]! ≤ 31 * aT q.body := Nat.mul_le_mul hk hc0
   subst hm
   refine aS (Le.frzC (j := 2) (i := 6) [] rfl rfl (by decide)) ?_
   refine aS (Le.frzC (j := 2) (i := 7) [.imm _ _] rfl rfl (by decide)) ?_
   refine aD rfl ?_
   refine aR ((⟨q.types,xs⟩ : Prg),p + 1 + 1) ?_ ?_ ⟨sE ?_,trivial⟩
   ·exact ⟨by dsimp only;omega,by dsimp only;omega,by dsimp only;omega⟩
   ·rfl
   ·rfl
 ·have hK : (bI bs p (q.body.length : Int) + 1).toNat = (bI bs p (q.body.length : Int)).toNat + 1 := by omega
  repeat' (first|(apply aF;first|(apply Ec;rfl;exact tS rfl (by omega);omega;rfl)|(apply uI;rfl;exact tS rfl (by omega);omega;rfl)|(apply bX;rfl;rfl;rfl;rfl;rfl;(rw [aI]; omega);exact LB rfl (by omega);omega;omega;exact K3 (by omega);rfl;rfl))|refine aE ?_|fail)
  refine aS (Le.frzC (j := 2) (i := 6) [] rfl rfl (by decide)) ?_
  refine aS (Le.frzC (j := 2) (i := 9) [.imm _ _] rfl rfl (by decide)) ?_
  refine aD rfl ?_
  refine aR ((⟨q.types,q.body.take (bI bs p (q.body.length : Int)).toNat ++ q.body.drop (bI bs p (q.body.length : Int) + 1).toNat⟩ : Prg),p + 1 + 1) ?_ ?_ ⟨sE ?_,trivial⟩
  ·refine ⟨?_, by dsimp only; omega, by dsimp only; omega⟩
   dsimp only
   rw [hK]
   have := Bn q.body (bI bs p (q.body.length : Int)).toNat
   omega
  ·show AV.agg [_, AV.imm _ _] = AV.agg [_, AV.imm (List.length (_ ++ _)) _]
   rw [List.length_append,List.length_take,List.length_drop,Nat.min_eq_left (by omega)]
  ·rfl
 ·refine aS (Le.frzC (j := 2) (i := 6) [] rfl rfl (by decide)) ?_
  refine aS (Le.frzC (j := 2) (i := 7) [.imm _ _] rfl rfl (by decide)) ?_
  refine aD rfl ?_
  refine aR (q,p + 1 + 1) ⟨by dsimp only;omega,by dsimp only;omega,by dsimp only;omega⟩ rfl ⟨sE ?_,trivial⟩
  ·rfl
def E4 (s : ByteArray) (i : Int) (w : ByteArray) : Bool := decide (0 ≤ i) && (decide (i + w.size ≤ s.size) && ((s.extract i.toNat (i + w.size).toNat).toList == w.toList))
def L0 (lo hi : Int) (s : ByteArray) (i : Int) : Int := if i < 0 then -1 else if (s.size : Int) ≤ i then -1 else if ((s[i.toNat]!).toNat : Int) < lo then -1 else if hi < ((s[i.toNat]!).toNat : Int) then -1 else ((s[i.toNat]!).toNat : Int) - lo
theorem u9 (s:ByteArray) (i:Int) (w:ByteArray) (hs:s.size ≤ 1000000) (hw:w.size ≤ 1000000) (hi:i ≤ 1000000):PC Tryz.prog 254 [sv s,iv i,sv w] (fun r => r = bv (E4 s i w)):=by
 refine aC Tryz.func254 Tryz.ntmps254 ?_
 repeat' (first|(apply aF;first|(apply l6;rfl;rfl;(rfl);rfl)|(apply Gq;rfl;exact tS rfl (by omega);exact tS rfl (by omega);omega;rfl))|refine aE ?_|(refine bS ?_ ?_ <;> intro hg hq <;> try (exfalso;omega))|refine dC ?_|fail)
 all_goals (refine ⟨?_,rfl⟩; simp only [aO,AV.v.injEq,Value.bool.injEq,Value.int.injEq,true_and])
 ·unfold E4
  rw [decide_eq_true (by omega),decide_eq_true (by omega)]; rfl
 ·unfold E4
  rw [decide_eq_true (p := 0 ≤ i) (by omega),decide_eq_false (by omega)]; rfl
 ·unfold E4
  rw [decide_eq_false (by omega)]; rfl
theorem L4 (s:ByteArray) (i:Int) (hs:s.size ≤ 1000000):PC Tryz.prog 278 [sv s,iv i] (fun r => r = iv (L0 97 122 s i)):=by
 have hb0 : ((s[i.toNat]!).toNat : Int) ≤ 255 := by have := (s[i.toNat]!).toNat_lt;omega
 refine aC Tryz.func278 Tryz.ntmps278 ?_
 repeat' (first|(apply aF;first|(apply rF;rfl;rfl;omega;rfl)|(apply EE;rfl;rfl;omega;rfl))|refine aE ?_|(refine aK ?_ ?_ <;> intro hc hq <;> try (exfalso;omega))|(refine bS ?_ ?_ <;> intro hg hq <;> try (exfalso;omega))|refine dC ?_|fail)
 all_goals (refine ⟨?_,rfl⟩; simp only [aO,AV.v.injEq,Value.bool.injEq,Value.int.injEq,true_and])
 all_goals (unfold L0;repeat' split)
 all_goals (first|rfl|omega)
theorem GO (s:ByteArray) (i:Int) (hs:s.size ≤ 1000000):PC Tryz.prog 280 [sv s,iv i] (fun r => r = iv (L0 48 57 s i)):=by
 have hb0 : ((s[i.toNat]!).toNat : Int) ≤ 255 := by have := (s[i.toNat]!).toNat_lt;omega
 refine aC Tryz.func280 Tryz.ntmps280 ?_
 repeat' (first|(apply aF;first|(apply rF;rfl;rfl;omega;rfl)|(apply EE;rfl;rfl;omega;rfl))|refine aE ?_|(refine aK ?_ ?_ <;> intro hc hq <;> try (exfalso;omega))|(refine bS ?_ ?_ <;> intro hg hq <;> try (exfalso;omega))|refine dC ?_|fail)
 all_goals (refine ⟨?_,rfl⟩; simp only [aO,AV.v.injEq,Value.bool.injEq,Value.int.injEq,true_and])
 all_goals (unfold L0;repeat' split)
 all_goals (first|rfl|omega)
def QP (s : ByteArray) (i : Int) (r : AV) : Prop := ∃ (x : AL.Stmt) (nx : Int),r = .tup [fG x,iv nx] ∧ ((nx = -1 ∧ (cR x : Int) ≤ s.size + 1) ∨ (i < nx ∧ nx ≤ s.size + 3 ∧ (cR x : Int) ≤ nx - i))
def QB (s : ByteArray) (i : Int) (r : AV) : Prop := ∃ (l : List AL.Stmt) (nx : Int),r = .tup [sl aN l,iv nx] ∧ ((nx = -1 ∧ l = []) ∨ (0 ≤ i ∧ i + 2 ≤ nx ∧ nx ≤ s.size ∧ (aT l : Int) ≤ nx - i))
def QL (s : ByteArray) (i : Int) (r : AV) : Prop := ∃ (l : List AL.Stmt) (nx : Int),r = .tup [sl aN l,iv nx] ∧ ((nx = -1 ∧ l = []) ∨ (i ≤ nx ∧ nx ≤ s.size ∧ (aT l : Int) ≤ nx - i))
theorem kT {s w:ByteArray}{i:Int}(h:E4 s i w = true):0 ≤ i ∧ i + w.size ≤ s.size:=by
 unfold E4 at h;simp only [Bool.and_eq_true,decide_eq_true_eq] at h;exact ⟨h.1,h.2.1⟩
theorem Sa {s:ByteArray}{i op x y n nx:Int}(h:nx = -1 ∨ (i < nx ∧ nx ≤ s.size + 3)):QP s i (.tup [.agg [iv op,iv x,iv y,iv n,.imm 0 [],.imm 0 []],iv nx]) :=
 ⟨.mk op x y n [] [],nx,rfl,by simp only [cR,aT]; omega⟩
theorem Sb {s:ByteArray}{i op x y n nx:Int}{th:List AL.Stmt}(h:(nx = -1 ∧ (aT th:Int) ≤ s.size) ∨ (i < nx ∧ nx ≤ s.size + 3 ∧ (aT th:Int) + 1 ≤ nx - i)):QP s i (.tup [.agg [iv op,iv x,iv y,iv n,sl aN th,.imm 0 []],iv nx]) :=
 ⟨.mk op x y n th [],nx,rfl,by simp only [cR,aT]; omega⟩
theorem Sd {s:ByteArray}{i op x y n nx:Int}{th el:List AL.Stmt}(h:(nx = -1 ∧ (aT th:Int) + aT el ≤ s.size) ∨ (i < nx ∧ nx ≤ s.size + 3 ∧ (aT th:Int) + aT el + 1 ≤ nx - i)):QP s i (.tup [.agg [iv op,iv x,iv y,iv n,sl aN th,sl aN el],iv nx]) :=
 ⟨.mk op x y n th el,nx,rfl,by simp only [cR]; omega⟩
theorem QP.pur {s:ByteArray}{i:Int}{r:AV}(h:QP s i r):r.pur = true := by obtain ⟨x,nx,rfl,_⟩ := h;exact Pur.pf
theorem QB.pur {s:ByteArray}{i:Int}{r:AV}(h:QB s i r):r.pur = true := by obtain ⟨x,nx,rfl,_⟩ := h;exact Pur.pf
theorem QL.pur {s:ByteArray}{i:Int}{r:AV}(h:QL s i r):r.pur = true := by obtain ⟨x,nx,rfl,_⟩ := h;exact Pur.pf
theorem wO {P:Program}{s:AS}{res:Array ResultVar}{q:AV → Prop}{l:List AV}(hQ:∀ r,q r → r.pur = true) (hr:xR P (lk s.ts) (aU s.hs) res.toList = some l) (h:q (aO l)):o9 P res (fun r _ => q r ∧ r.pur = true) .ret s := aD hr ⟨h,hQ _ h⟩
theorem BF (s:ByteArray) (i dp:Int) (hs:s.size ≤ 100000) (hi0:0 ≤ i) (hi:i ≤ s.size) (hd0:0 ≤ dp) (hd:dp ≤ 10) (braces_ih:∀ j dj:Int,dj = dp - 1 → -1 ≤ j → j ≤ s.size + 10 → PC Tryz.prog 279 [sv s,iv j,iv dj] (QB s j)):PC Tryz.prog 255 [sv s,iv i,iv dp] (QP s i):=by
 have h1 : E4 s i ⟨#[100,114,111,112,32]⟩ = true → i + 5 ≤ s.size := fun h => (kT h).2
 have h2 : E4 s i ⟨#[108,111,111,112,123]⟩ = true → i + 5 ≤ s.size := fun h => (kT h).2
 have h3 : E4 s i ⟨#[105,102,123]⟩ = true → i + 3 ≤ s.size := fun h => (kT h).2
 have h4 : E4 s i ⟨#[42]⟩ = true → i + 1 ≤ s.size := fun h => (kT h).2
 have h5 : E4 s (i + 1) ⟨#[61]⟩ = true → i + 1 + 1 ≤ s.size := fun h => (kT h).2
 have h6 : E4 s (i + 2) ⟨#[98,111,120,32]⟩ = true → i + 2 + 4 ≤ s.size := fun h => (kT h).2
 have h7 : E4 s (i + 2) ⟨#[38,109,117,116,32]⟩ = true → i + 2 + 5 ≤ s.size := fun h => (kT h).2
 refine aC Tryz.func255 Tryz.ntmps255 ?_
 repeat' (first|(apply aF;(first|(apply aA (k := 254);rfl;(apply u9 <;> (first|omega|decide));(rfl);rfl)|(apply aA (k := 278);rfl;(apply L4 <;> (omega));(rfl);rfl)|(apply kN (k := 279);rfl;(apply braces_ih <;> (omega));(rfl);rfl;(rintro _ ⟨l,nx,rfl,hql⟩ _))|(apply aA (k := 280);rfl;(apply GO <;> (omega));(rfl);rfl)))|refine aE ?_|(refine aK ?_ ?_ <;> intro hc hq <;> try (exfalso;omega))|(refine bS ?_ ?_ <;> intro hg hq <;> try (exfalso;omega))|fail)
 all_goals refine wO (fun _ => QP.pur) (l := [.agg [_,_,_,_,_,_],_]) rfl ?_
 all_goals (try have b1 := h1 (by assumption))
 all_goals (try have b2 := h2 (by assumption))
 all_goals (try have b3 := h3 (by assumption))
 all_goals (try have b4 := h4 (by assumption))
 all_goals (try have b5 := h5 (by assumption))
 all_goals (try have b6 := h6 (by assumption))
 all_goals (try have b7 := h7 (by assumption))
 all_goals clear h1 h2 h3 h4 h5 h6 h7
 all_goals first
  | (refine Sa ?_; omega)
  | skip
 ·refine Sb (th := l) ?_
  rcases hql with ⟨h8,h9⟩|hql
  ·rw [h9]; simp only [aT]; omega
  ·omega
 ·rename_i l1 nx1 hql1 hpu1 hpu2
  refine Sd (th := l1) (el := l) ?_
  rcases hql1 with ⟨h8,h9⟩|hql1 <;> rcases hql with ⟨h10,h11⟩|hql
  ·rw [h9,h11]; simp only [aT]; omega
  ·omega
  ·rw [h11]; simp only [aT]; omega
  ·omega
theorem y6 (s:ByteArray) (i dp:Int) (hs:s.size ≤ 100000) (hi0:-1 ≤ i) (hi:i ≤ s.size + 10) (hd0:-1 ≤ dp) (hd:dp ≤ 10) (list_ih:∀ j dj:Int,0 ≤ dp → dj = dp → 0 ≤ j → j ≤ s.size → PC Tryz.prog 217 [sv s,iv j,iv dj] (QL s j)):PC Tryz.prog 279 [sv s,iv i,iv dp] (QB s i):=by
 have h1 : E4 s i ⟨#[123]⟩ = true → 0 ≤ i ∧ i + 1 ≤ s.size := fun h => kT h
 refine aC Tryz.func279 Tryz.ntmps279 ?_
 repeat' (first|(apply aF;(apply aA (k := 254);rfl;(apply u9 <;> (first|omega|decide));(rfl);rfl))|refine aE ?_|(refine aK ?_ ?_ <;> intro hc hq <;> try (exfalso;omega))|(refine bS ?_ ?_ <;> intro hg hq <;> try (exfalso;omega))|fail)
 ·refine aS (Le.nilImm (d := 6) rfl) ?_
  exact wO (fun _ => QB.pur) (l := [.imm 0 [],iv (-1)]) rfl ⟨[],-1,rfl,.inl ⟨rfl,rfl⟩⟩
 ·have b1 := h1 (by assumption)
  repeat' (first|(apply aF;(first|(apply kN (k := 217);rfl;(apply list_ih <;> (first|assumption|omega));(rfl);rfl;(rintro _ ⟨l,nx,rfl,hql⟩ _))|(apply aA (k := 254);rfl;(apply u9 <;> (first|omega|decide));(rfl);rfl)))|refine aE ?_|(refine aK ?_ ?_ <;> intro hc hq <;> try (exfalso;omega))|fail)
  ·refine aS (Le.nilImm (d := 6) rfl) ?_
   exact wO (fun _ => QB.pur) (l := [.imm 0 [],iv (-1)]) rfl ⟨[],-1,rfl,.inl ⟨rfl,rfl⟩⟩
  ·have b2 : 0 ≤ nx ∧ nx + 1 ≤ s.size := kT (w := ⟨#[125]⟩) (by assumption)
   exact wO (fun _ => QB.pur) (l := [sl aN l,iv (nx + 1)]) rfl ⟨l,nx + 1,rfl,by omega⟩
 ·refine aS (Le.nilImm (d := 6) rfl) ?_
  exact wO (fun _ => QB.pur) (l := [.imm 0 [],iv (-1)]) rfl ⟨[],-1,rfl,.inl ⟨rfl,rfl⟩⟩
theorem EN (s:ByteArray) (i dp:Int) (hs:s.size ≤ 100000) (hi0:0 ≤ i) (hi:i ≤ s.size) (hd0:0 ≤ dp) (hd:dp ≤ 10) (parse_ih:∀ j dj:Int,dj = dp → 0 ≤ j → j ≤ s.size → PC Tryz.prog 255 [sv s,iv j,iv dj] (QP s j)):PC Tryz.prog 217 [sv s,iv i,iv dp] (QL s i):=by
 refine aC Tryz.func217 Tryz.ntmps217 ?_
 repeat' (first|(apply aF;(apply aA (k := 254);rfl;(apply u9 <;> (first|omega|decide));(rfl);rfl))|refine aE ?_|(refine aK ?_ ?_ <;> intro hc hq <;> try (exfalso;omega))|(refine bS ?_ ?_ <;> intro hg hq <;> try (exfalso;omega))|fail)
 rotate_left 1
 ·refine aH (σ := Int × List AL.Stmt × Nat) [0, 2] [] (fun k => [(1, iv k.1), (8, .own 0 0 k.2.2 6)]) (fun k => [(0, some (flat aN k.2.1))]) (fun k => i ≤ k.1 ∧ k.1 ≤ s.size ∧ k.2.2 = k.2.1.length ∧ (aT k.2.1 : Int) ≤ k.1 - i) (fun k => (s.size - k.1).toNat) (i, [], 0) ⟨by omega, by omega, rfl, by simp [aT]⟩ ?_
  rintro ⟨k,xs,m⟩ ⟨hk0,hk,hm,hc⟩
  dsimp only at hk0 hk hm hc ⊢
  have hln := eI xs
  repeat' (first|(apply aF;first|(apply aJ (t := _);rfl;rfl;rfl;(exact (rfl:_=some [_,_,_,_,_,_]));rfl;rfl)|(first|(apply aA (k := 254);rfl;(apply u9 <;> (first|omega|decide));(rfl);rfl)|(apply kN (k := 255);rfl;(apply parse_ih <;> (first|assumption|omega));(rfl);rfl;(rintro _ ⟨x,nx,rfl,hqx⟩ _))))|refine aE ?_|(refine aK ?_ ?_ <;> intro hc hq <;> try (exfalso;omega))|(refine bS ?_ ?_ <;> intro hg hq <;> try (exfalso;omega))|fail)
  ·refine aS (Le.nilImm (d := 6) rfl) ?_
   exact wO (fun _ => QL.pur) (l := [.imm 0 [],iv (-1)]) rfl ⟨[],-1,rfl,.inl ⟨rfl,rfl⟩⟩
  ·refine aS (Le.frzD (d := 6) (i := 3) rfl rfl) ?_
   refine wO (fun _ => QL.pur) (l := [.imm (m + 1) (flat aN (xs ++ [x])),iv nx]) rfl ⟨xs ++ [x],nx,?_,?_⟩
   ·show AV.tup [AV.imm (m + 1) _, _] = AV.tup [AV.imm (List.length (xs ++ [x])) _, _]
    rw [List.length_append,hm]; rfl
   ·rw [gI]; simp only [aT]; omega
  ·have b2 : 0 ≤ nx ∧ nx + 1 ≤ s.size := kT (w := ⟨#[59]⟩) (by assumption)
   (refine bE (nx + 1,xs ++ [x],m + 1) (Le.renA [(0,3)]) ?_ ?_)
   ·dsimp only
    refine ⟨by omega,by omega,by simp [hm],?_⟩
    rw [gI]; simp only [aT]; omega
   ·dsimp only;omega
  ·refine aS (Le.nilImm (d := 6) rfl) ?_
   exact wO (fun _ => QL.pur) (l := [.imm 0 [],iv (-1)]) rfl ⟨[],-1,rfl,.inl ⟨rfl,rfl⟩⟩
 ·refine aS (Le.frzD (d := 6) (i := 0) rfl rfl) ?_
  exact wO (fun _ => QL.pur) (l := [.imm 0 [],iv i]) rfl ⟨[],i,rfl,by simp only [aT]; omega⟩
 ·refine aS (Le.frzD (d := 6) (i := 0) rfl rfl) ?_
  exact wO (fun _ => QL.pur) (l := [.imm 0 [],iv i]) rfl ⟨[],i,rfl,by simp only [aT]; omega⟩
theorem Ch (s:ByteArray) (hs:s.size ≤ 100000):∀ n:Nat,n ≤ 10 → (∀ j:Int,-1 ≤ j → j ≤ s.size + 10 → PC Tryz.prog 279 [sv s,iv j,iv ((n:Int) - 1)] (QB s j)) ∧ (∀ j:Int,0 ≤ j → j ≤ s.size → PC Tryz.prog 217 [sv s,iv j,iv (n:Int)] (QL s j))
 | 0, hn => by
  have hB : ∀ j : Int, -1 ≤ j → j ≤ s.size + 10 → PC Tryz.prog 279 [sv s, iv j, iv (((0 : Nat) : Int) - 1)] (QB s j) :=
   fun j h0 h1 => y6 s j (((0 : Nat) : Int) - 1) hs h0 h1 (by omega) (by omega) (fun _ _ h => by omega)
  have hP : ∀ j : Int, 0 ≤ j → j ≤ s.size → PC Tryz.prog 255 [sv s, iv j, iv ((0 : Nat) : Int)] (QP s j) :=
   fun j h0 h1 => BF s j _ hs h0 h1 (by omega) (by omega) (fun k dj h2 h3 h4 => by subst h2;exact hB k h3 h4)
  exact ⟨hB,fun j h0 h1 => EN s j _ hs h0 h1 (by omega) (by omega) (fun k dj h2 h3 h4 => by subst h2;exact hP k h3 h4)⟩
 | n + 1, hn => by
  have ih := Ch s hs n (by omega)
  have e : (((n + 1 : Nat) : Int) - 1) = (n : Int) := by omega
  have hB : ∀ j : Int, -1 ≤ j → j ≤ s.size + 10 → PC Tryz.prog 279 [sv s, iv j, iv (((n + 1 : Nat) : Int) - 1)] (QB s j) :=
   fun j h0 h1 => y6 s j _ hs h0 h1 (by omega) (by omega) (fun k dj h2 h3 h4 h5 => by rw [e] at h3;subst h3;exact ih.2 k h4 h5)
  have hP : ∀ j : Int, 0 ≤ j → j ≤ s.size → PC Tryz.prog 255 [sv s, iv j, iv ((n + 1 : Nat) : Int)] (QP s j) :=
   fun j h0 h1 => BF s j _ hs h0 h1 (by omega) (by omega) (fun k dj h2 h3 h4 => by subst h2;exact hB k h3 h4)
  exact ⟨hB,fun j h0 h1 => EN s j _ hs h0 h1 (by omega) (by omega) (fun k dj h2 h3 h4 => by subst h2;exact hP k h3 h4)⟩
theorem Nb (s:ByteArray) (i:Int) (hs:s.size ≤ 100000) (hi0:0 ≤ i) (hi:i ≤ s.size):PC Tryz.prog 217 [sv s,iv i,iv 4] (QL s i) := (Ch s hs 4 (by omega)).2 i hi0 hi
theorem Dc (v:Int) (h0:0 ≤ v) (h1:v ≤ 25):PC Tryz.prog 285 [iv v] (fun r => r = sv (hG v)):=by
 refine aC Tryz.func285 Tryz.ntmps285 ?_
 repeat' (first|(apply aF;first|(apply MT;rfl;rfl;omega;rfl)|(apply J2 (ns := [_]);rfl;rfl;rfl)|(apply Cp;rfl;omega;rfl))|refine aE ?_|refine dC ?_|fail)
 exact ⟨rfl,rfl⟩
theorem KJ (n:Int) (h0:0 ≤ n) (h1:n ≤ 9):PC Tryz.prog 286 [iv n] (fun r => r = sv (Dt n)):=by
 refine aC Tryz.func286 Tryz.ntmps286 ?_
 repeat' (first|refine aE ?_|(refine aK ?_ ?_ <;> intro hc hq <;> try (exfalso;omega))|fail)
 refine aH (σ := Unit) [0,3] [] (fun u => []) (fun u => []) (fun u => True) (fun u => 0) () trivial ?_
 rintro u _
 repeat' (first|(apply aF;first|(apply l6;rfl;rfl;(rfl);rfl)|(apply J2 (ns := [_]);rfl;rfl;rfl)|(apply Cp;rfl;omega;rfl))|refine aE ?_|(refine aK ?_ ?_ <;> intro hc hq <;> try (exfalso;omega))|refine dC ?_|fail)
 exact ⟨rfl,rfl⟩
theorem Fe (s:AL.Stmt) (hc:cR s ≤ 10000) (hop:(s.op = 9 ∨ s.op = 10) ∨ (1 ≤ s.op ∧ s.op ≤ 8 ∧ 0 ≤ s.x ∧ s.x ≤ 5 ∧ 0 ≤ s.y ∧ s.y ≤ 5 ∧ (s.op = 1 ∨ s.op = 2 → 0 ≤ s.n ∧ s.n ≤ 9)))
  (hth : s.op = 9 ∨ s.op = 10 → PC Tryz.prog 256 [sl aN s.th] (fun r => r = sv (jZ s.th))) (hel : s.op = 9 → PC Tryz.prog 256 [sl aN s.el] (fun r => r = sv (jZ s.el))) : PC Tryz.prog 281 [fG s] (fun r => r = sv (l9 s)) := by
 have k1 := l8 s.th
 have k2 := l8 s.el
 have k3 := gU s
 refine aC Tryz.func281 Tryz.ntmps281 ?_
 repeat' (first|(apply aF;first|(apply l6;rfl;rfl;(first|rfl|exact tQ (by (simp only [ByteArray.size_append,pZ,List.length_cons,List.length_nil,nP,nU,rX] <;> omega)));rfl)|(first|(apply aA (k := 256);rfl;(first|(apply hth;omega)|(apply hel;omega));exact Pur.pf;rfl)|(apply aA (k := 285);rfl;(apply Dc <;> (omega));(rfl);rfl)|(apply aA (k := 286);rfl;(apply KJ <;> (omega));(rfl);rfl)))|refine aE ?_|(refine aK ?_ ?_ <;> intro hc hq <;> try (exfalso;omega))|refine bQ ?_|refine dC ?_|fail)
 all_goals (refine ⟨?_,rfl⟩; rw [Ho]; repeat' split)
 all_goals (first|rfl|omega)
theorem CC (l:List AL.Stmt) (hc:aT l ≤ 10000) (text_ih:∀ k,k < l.length → PC Tryz.prog 281 [fG l[k]!] (fun r => r = sv (l9 l[k]!))):PC Tryz.prog 256 [sl aN l] (fun r => r = sv (jZ l)):=by
 have hlen := eI l
 refine aC Tryz.func256 Tryz.ntmps256 ?_
 repeat' (first|refine aE ?_|fail)
 refine aH (σ := Nat × ByteArray) [0] [] (fun k => [(4,iv (k.1 : Int)),(3,sv k.2)]) (fun k => []) (fun k => k.1 ≤ l.length ∧ k.2 = jZ (l.take k.1)) (fun k => l.length - k.1) (0,⟨#[]⟩) ⟨by omega,rfl⟩ ?_
 rintro ⟨k,t⟩ ⟨hk,ht⟩
 dsimp only at hk ht ⊢
 have k1 := l8 (l.take k)
 have k2 := wP l[k]!
 have hck := gV l k
 have hct : aT (l.take k) ≤ aT l := by have := gI (l.take k) (l.drop k);rw [List.take_append_drop] at this;omega
 have k3 : t.size = (jZ (l.take k)).size := by rw [ht]
 repeat' (first|(apply aF;first|(apply l6;rfl;rfl;(exact tQ (by (first|omega|(simp only [ByteArray.size_append,pZ,List.length_cons,List.length_nil,nP,nU,rX] <;> omega))));rfl)|(apply aA (k := 281);rfl;(apply text_ih <;> (omega));exact Pur.pf;rfl))|refine aE ?_|(refine aK ?_ ?_ <;> intro hc hq <;> try (exfalso;omega))|refine dC ?_|fail)
 ·(refine bE (k + 1, _) (Le.renA []) ?_ ?_)
  ·exact ⟨by dsimp only;omega,by dsimp only;rw [wN l k (by omega),sS,if_pos (by omega),ht]⟩
  ·dsimp only;omega
 ·(refine bE (k + 1, _) (Le.renA []) ?_ ?_)
  ·exact ⟨by dsimp only;omega,by dsimp only;rw [wN l k (by omega),sS,if_neg (by omega),ht]⟩
  ·dsimp only;omega
 ·have hke : k = l.length := by omega
  refine ⟨?_,rfl⟩
  rw [ht,hke,List.take_length]; rfl
theorem Ip (ts:List Int) (hts:cC ts = true):∀ m:Nat,m ≤ 10000 → ∀ l d,aT l ≤ m → okL ts d l = true → PC Tryz.prog 256 [sl aN l] (fun r => r = sv (jZ l)):=by
 intro m
 induction m with
 | zero =>
  intro hm l d hc ho
  have := eI l
  exact CC l (by omega) (fun k hk => by omega)
 | succ m ih =>
  intro hm l d hc ho
  refine CC l (by omega) (fun k hk => ?_)
  have hck := gV l k hk
  have hct := lY l[k]!
  have hs : sU ts d l[k]! = true := by rw [Ag,kK] at ho;exact ho k hk
  rw [ED] at hs
  by_cases h9 : l[k]!.op ≠ 9 ∧ l[k]!.op ≠ 10
  ·rw [if_pos h9] at hs
   simp only [Bool.and_eq_true] at hs
   exact Fe _ (by omega) (.inr (FW hts hs.2)) (fun h => by omega) (fun h => by omega)
  ·rw [if_neg h9] at hs
   cases d with
   | zero => cases hs
   | succ d =>
    simp only [Bool.and_eq_true] at hs
    exact Fe _ (by omega) (.inl (by omega)) (fun h => ih (by omega) _ d (by omega) hs.1.2) (fun h => ih (by omega) _ d (by omega) hs.2)
theorem JF (ts:List Int) (d:Nat) (l:List AL.Stmt) (hts:cC ts = true) (hc:aT l ≤ 10000) (ho:okL ts d l = true):PC Tryz.prog 256 [sl aN l] (fun r => r = sv (jZ l)) := Ip ts hts _ hc l d (Nat.le_refl _) ho
def D1 (s : ByteArray) : List AV := [.v (.string s)]
instance : FlT D1 1:=⟨fun _ => rfl⟩
instance : FE D1 (fun s => [.v (.string s)]):=⟨fun _ => rfl⟩
instance (s : ByteArray) : Pur (D1 s):=⟨rfl⟩
theorem Le.slotEq {ts:List (Nat × AV)}{hs:List (Nat × Option (List AV))}{n:Nat}{z0:Lo}{d:Nat}(v v':AV) (hd:lk ts d = some v) (h:v = v'):Le ⟨ts,hs,n,z0⟩ ⟨(d,v') :: ts,hs,n,z0⟩ :=
 Le.slot hd fun w bad ι y hr => h ▸ hr
def kinds : List ByteArray := [⟨#[]⟩,⟨#[105]⟩,⟨#[98]⟩,⟨#[114]⟩,⟨#[109]⟩]
theorem Ds (k:Nat):(kinds[k]!).size ≤ 1:=by
 match k with
 | 0 => decide
 | 1 => decide
 | 2 => decide
 | 3 => decide
 | 4 => decide
 | k + 5 => exact (show (default : ByteArray).size ≤ 1 from by decide)
theorem BN (p:Prg) (hv:bD p = true):PC Tryz.prog 218 [b8 p] (fun r => ∃ t,r = sv t):=by
 have hv2 := hv
 simp only [bD,Bool.and_eq_true,decide_eq_true_eq] at hv2
 obtain ⟨⟨hts,hol⟩,hcn⟩ := hv2
 have hl6 := iO hts
 have htx := l8 p.body
 refine aC Tryz.func218 Tryz.ntmps218 ?_
 repeat' (first|refine aE ?_|fail)
 refine aH (σ := Nat × ByteArray) [1] [0] (fun k => [(4,iv (k.1 : Int)),(3,sv k.2)]) (fun k => []) (fun k => k.1 ≤ p.types.length ∧ k.2.size ≤ k.1) (fun k => p.types.length - k.1) (0,⟨#[]⟩) ⟨by omega,by show 0 ≤ 0;omega⟩ ?_
 rintro ⟨k,t⟩ ⟨hk,ht⟩
 dsimp only at hk ht ⊢
 have htk := lQ hts k
 have hkz : (kinds[(p.types[k]!).toNat]!).size ≤ 1 := Ds _
 have hkl : kinds.length = 5 := rfl
 repeat' (first|(apply aF;first|(with_reducible apply aY (d := 14))|(apply aA (k := 256);rfl;exact JF p.types 4 p.body hts (by omega) hol;exact Pur.pf;rfl)|(apply l6;rfl;rfl;(exact tQ (by (simp only [ByteArray.size_append,pZ,List.length_cons,List.length_nil,nP,nU,rX] <;> omega)));rfl)|(apply aJ (t := _);rfl;rfl;rfl;(exact (rfl:_=some [_,_,_,_,_]));rfl;rfl))|refine aE ?_|(refine aK ?_ ?_ <;> intro hc hq <;> try (exfalso;omega))|fail)
 ·refine bZ (c8 ?_ (Le.slotEq (d := 13) _ (.imm 5 (flat D1 kinds)) rfl rfl))
  repeat' (first|(apply aF;(apply l6;rfl;rfl;(exact tQ (by (omega)));rfl))|refine aE ?_|fail)
  (refine bE (k + 1,_) (Le.renA [(0,0)]) ?_ ?_)
  ·exact ⟨by dsimp only;omega,by dsimp only;rw [ByteArray.size_append]; omega⟩
  ·dsimp only;omega
 ·refine aD rfl ⟨⟨_,rfl⟩,rfl⟩
theorem Ib {s:ByteArray}(b:Bool):(∃ (q:Prg) (b':Bool),AV.tup [AV.agg [.imm 0 [],.imm 0 []],bv b] = .tup [b8 q,bv b'] ∧ aT q.body ≤ s.size + 10 ∧ q.types.length ≤ s.size + 10) :=
 ⟨⟨[],[]⟩,b,rfl,by simp [aT],by simp⟩
theorem vI (s:ByteArray) (hs:s.size ≤ 10000):PC Tryz.prog 166 [sv s] (fun r => ∃ (q:Prg) (b:Bool),r = .tup [b8 q,bv b] ∧ aT q.body ≤ s.size + 10 ∧ q.types.length ≤ s.size + 10):=by
 refine aC Tryz.func166 Tryz.ntmps166 ?_
 repeat' (first|(apply aF;(with_reducible apply aY (d := 13)))|refine aE ?_|(refine aK ?_ ?_ <;> intro hc hq <;> try (exfalso;omega))|fail)
 ·exact aD (l := [.agg [.imm 0 [],.imm 0 []],bv false]) rfl ⟨Ib false,rfl⟩
 refine bZ ?_
 apply mT
 case hl => rfl
 case hf => exact (rfl:_=some [AV.v (.slice none 0 0),AV.v (.slice none 0 0)])
 case hN => rfl
 repeat' (first|refine aE ?_|fail)
 apply AW.le
 case k => exact Le.nilCell (i := 1) 1 [] rfl (by decide) (by decide)
 refine aH (σ := Nat × List Int × Nat) [0,2,4] [0] (fun k => [(5,iv (k.1 : Int))]) (fun k => [(1,some [.own 2 0 k.2.2 1,.v (.slice none 0 0)]),(2,some (flat cI k.2.1))]) (fun k => k.1 ≤ s.size ∧ k.2.1.length = k.1 ∧ k.2.2 = k.2.1.length) (fun k => s.size - k.1) (0,[],0) ⟨by omega,rfl,rfl⟩ ?_
 rintro ⟨k,xs,m⟩ ⟨hk,hxl,hm⟩
 dsimp only at hk hxl hm ⊢
 repeat' (first|(apply aF;first|(with_reducible apply aY (d := 43))|(apply rF;rfl;rfl;omega;rfl)|(apply aJ (t := _);rfl;rfl;rfl;exact (rfl:_=some [_]);rfl;rfl))|refine aE ?_|(refine aK ?_ ?_ <;> intro hc hq <;> try (exfalso;omega))|(refine bS ?_ ?_ <;> intro hg hq <;> try (exfalso;omega))|fail)
 ·(refine bE (k + 1, xs ++ [1], m + 1) (Le.renA [(0, 0), (1, 1), (2, 4)]) ?_ ?_)
  ·exact ⟨by dsimp only;omega,by simp [hxl],by simp [hm]⟩
  ·dsimp only;omega
 ·(refine bE (k + 1, xs ++ [2], m + 1) (Le.renA [(0, 0), (1, 1), (2, 4)]) ?_ ?_)
  ·exact ⟨by dsimp only;omega,by simp [hxl],by simp [hm]⟩
  ·dsimp only;omega
 ·(refine bE (k + 1, xs ++ [3], m + 1) (Le.renA [(0, 0), (1, 1), (2, 4)]) ?_ ?_)
  ·exact ⟨by dsimp only;omega,by simp [hxl],by simp [hm]⟩
  ·dsimp only;omega
 ·(refine bE (k + 1, xs ++ [4], m + 1) (Le.renA [(0, 0), (1, 1), (2, 4)]) ?_ ?_)
  ·exact ⟨by dsimp only;omega,by simp [hxl],by simp [hm]⟩
  ·dsimp only;omega
 ·(refine bE (k + 1, xs ++ [0], m + 1) (Le.renA [(0, 0), (1, 1), (2, 4)]) ?_ ?_)
  ·exact ⟨by dsimp only;omega,by simp [hxl],by simp [hm]⟩
  ·dsimp only;omega
 all_goals subst hm
 all_goals (refine bZ (c8 ?_ (Le.frzC (j := 1) (i := 2) [] rfl rfl (by decide))))
 all_goals repeat' (first|(apply aF;first|(apply kN (k := 217);rfl;(apply Nb <;> omega);(rfl);rfl;(rintro _ ⟨l,nx,rfl,hql⟩ _))|(apply aA (k := 61);rfl;(exact fX ⟨xs,l⟩ (by show xs.length ≤ _; omega) (by show aT l ≤ 100000000;rcases hql with ⟨_,h9⟩|h9;(rw [h9]; decide);omega));exact Pur.pf;rfl)|(apply kN (k := 218);rfl;exact BN ⟨xs,l⟩ (by assumption);exact Pur.pf;rfl;(rintro _ ⟨t,rfl⟩ _))|(apply l6;rfl;rfl;(rfl);rfl))|refine aE ?_|(refine aK ?_ ?_ <;> intro hc hq <;> try (exfalso;omega))|(refine bS ?_ ?_ <;> intro hg hq <;> try (exfalso;omega))|fail)
 all_goals first
  | exact aD (l := [.agg [.imm 0 [],.imm 0 []],bv false]) rfl ⟨Ib false,rfl⟩
  | (refine aD (l := [.agg [.imm xs.length (flat cI xs), sl aN l], bv true]) rfl ⟨⟨⟨xs, l⟩, true, rfl, ?_, by show xs.length ≤ _; omega⟩, Pur.pf⟩
     show aT l ≤ _
     rcases hql with ⟨_,h9⟩|h9
     ·rw [h9]; simp [aT]
     ·omega)
end Go.Proofs.YtahdccneecdmmaaGreat
