/-
 A part of the proofs over this program: rules and contracts of its functions (the contracts).
-/
import Derived.Test.YtahdccneecdmmaaGreatE1B02
set_option linter.unusedVariables false
set_option linter.unusedSimpArgs false
set_option maxHeartbeats 8000000
set_option maxRecDepth 4000
attribute [local irreducible] Go.AL.RW Go.AL.AW Go.AL.Stop
namespace Go.Proofs.YtahdccneecdmmaaGreat
open Go.AL Go.RowKit
def E6 (nv N : Nat) (i : Nat) : List AV := [.imm nv (flat (yJ (i * (nv + 1)) N) (List.range nv)),.own (i * (nv + 1) + nv + aQ) 0 N 1]
instance (nv N : Nat) : FlT (E6 nv N) 2:=⟨fun _ => rfl⟩
instance (nv N : Nat) : FE (E6 nv N) (fun i => [.imm nv (flat (yJ (i * (nv + 1)) N) (List.range nv)),.own (i * (nv + 1) + nv + aQ) 0 N 1]):=⟨fun _ => rfl⟩
theorem pI {m:List (Nat × Nat)}{lo:Lo}{pn:Option Nat}{nv N k M:Nat}(hk:k ≤ M) (h:lo.fb = aQ + M * (nv + 1)):RnL (jB m lo pn) (flat (E6 nv N) (List.range k)) (flat (E6 nv N) (List.range k)) :=
 RnL.flt fun i hi => by
  rw [List.mem_range] at hi
  have h1 : i * (nv + 1) + nv < M * (nv + 1) := gG (by omega) (by omega)
  exact .cons (.imm (cJ (by rw [h]; omega))) (.cons (.own (gV (by omega) (by rw [h]; omega))) .nil)
theorem Fs {m:List (Nat × Nat)}{lo:Lo}{pn:Option Nat}{nv N k:Nat}(h:lo.fb = aQ + (k + 1) * (nv + 1)):RnL (jB m lo pn) (flat (E6 nv N) (List.range (k + 1))) (((flat (E6 nv N) (List.range k)).drop 0).take (k * 2) ++ E6 nv N k):=by
 have e : ((flat (E6 nv N) (List.range k)).drop 0).take (k * 2) = flat (E6 nv N) (List.range k) := List.take_of_length_le (by rw [List.drop_zero,aI (E6 nv N) (e := 2)]; simp)
 have := pI (m := m) (pn := pn) (N := N) (Nat.le_refl (k + 1)) h
 rw [e]
 rw [List.range_succ,← cP,k8] at this ⊢
 exact this
def MN (s : List (List Bool) × List Bool) : List AV := [sl fQ s.1,sl cB s.2]
instance : FlT MN 2:=⟨fun _ => rfl⟩
instance : FE MN (fun s => [sl fQ s.1,sl cB s.2]):=⟨fun _ => rfl⟩
theorem Ka {D:List Nat}{hs:List (Nat × Option (List AV))}{R:List (List Bool)}{nv N M n:Nat}(hF:FamR R R hs hs) (hD:∀ k,k < nv + 1 → n * (nv + 1) + k + aQ ∈ D) (hlo:R.length = M * (nv + 1)) (hn:n < M) (hro:∀ q,q < R.length → R[q]!.length = N) :
  LdL D (aO hs) (E6 nv N n) [sl fQ (jT nv R n),sl cB (kB nv R n)] := by
 have h1 : n * (nv + 1) + nv < M * (nv + 1) := gG hn (by omega)
 have h2 : (jT nv R n).length = nv := qX hlo hn
 have h3 : (kB nv R n).length = N := hro _ (by omega)
 have e1 : sl fQ (jT nv R n) = .imm nv (flat fQ ((R.drop (n * (nv + 1))).take nv)) := by unfold sl;rw [h2]; rfl
 have e2 : sl cB (kB nv R n) = .imm N (flat cB (kB nv R n)) := by unfold sl;rw [h3]
 rw [e1,e2]
 exact .cons (.imm (LdL.rows hF (fun k hk => hD k (by omega)) (by omega) (fun k hk => hro _ (by omega)))) (.cons (.own (hD nv (by omega)) (hF.get (by omega)) (.pur (inferInstance : Pur (flat cB _)).pf)) .nil)
def Jy (b : Nat) : List Nat := [b + 0 + aQ,b + 1 + aQ,b + 2 + aQ,b + 3 + aQ,b + 4 + aQ,b + 5 + aQ,b + 6 + aQ]
theorem AH {b k:Nat}(h:k < 7):b + k + aQ ∈ Jy b:=by
 unfold Jy
 match k,h with
 | 0,_ => simp
 | 1,_ => simp
 | 2,_ => simp
 | 3,_ => simp
 | 4,_ => simp
 | 5,_ => simp
 | 6,_ => simp
theorem tB {nv N n k:Nat}{R:List (List Bool)}(hlo:R.length = N * (nv + 1)) (hn:n < N) (hk:k < nv + 1):((R.drop (n * (nv + 1))).take (nv + 1))[k]! = R[n * (nv + 1) + k]!:=by
 have h1 := gG hn hk
 have h2 : n * (nv + 1) + nv < N * (nv + 1) := gG hn (by omega)
 rw [a8 _ _ (by rw [List.length_take,List.length_drop]; omega),a8 _ _ (by omega),List.getElem_take,List.getElem_drop]
theorem jY {nv N n:Nat}{R:List (List Bool)}(hlo:R.length = N * (nv + 1)) (hn:n < N):((R.drop (n * (nv + 1))).take (nv + 1)).length = nv + 1:=by
 have h2 : n * (nv + 1) + nv < N * (nv + 1) := gG hn (by omega)
 rw [List.length_take,List.length_drop]; omega
theorem D9 (ts:List Int) (pts:List Pnt) (w:WG ts pts) (i:Nat) (hi:i < pts.length) (R:List (List Bool)) (h:FSd ts pts R) :
  Mo Tryz.prog 223 [sl cI ts,sl cC pts,iv (i : Int),Lm 0 ts.length pts.length] ((R.drop (i * (ts.length + 1))).take (ts.length + 1)) (.agg [sl fQ (pB ts pts i (jT ts.length R i)),sl cB (pA ts pts i (kB ts.length R i))]) [] := by
 have h1 := En ts pts w i hi ((R.drop (i * (ts.length + 1))).take (ts.length + 1)) (jY h.lo hi) (fun k hk => by rw [tB h.lo hi hk]; exact h.ro _ (by rw [h.lo]; exact gG hi hk))
 rw [tB h.lo hi (by omega),List.take_take,show min ts.length (ts.length + 1) = ts.length from by omega] at h1
 exact h1
theorem Dk {ts:List Int}{pts:List Pnt}(w:WG ts pts){R:List (List Bool)}(h:FSd ts pts R){i v:Nat}(hi:i < pts.length) (hv:v < ts.length):(pB ts pts i (jT ts.length R i))[v]!.length = pts.length:=by
 rw [kL _ _ _ _ _ hv]
 split
 ·exact iS _ _ _ _
 ·split
  ·simp
  ·rw [gS h.lo hi hv]; exact h.ro _ (by rw [h.lo]; exact gG hi (by omega))
theorem tA {b:List Bool}{R:List (List Bool)}{k m:Nat}{N:Nat}{Q:Exit → AS → Prop}{all:Array Oper}{rest:List Oper}{tsl:List (Nat × AV)}{hsl:List (Nat × Option (List AV))}{nidl:Nat}{z0:Lo}{md:Md}{d:Nat}{ty:TypeId}{pos:String}{af:Array Edge}{tys:Array TypeId}{x0 x1:Operand}(ha0:ev (lk tsl) x0 = some (.own (k + aQ) 0 m 1)) (ha1:ev (lk tsl) x1 = some (sl cB b))
  (hF : FamR R R hsl hsl) (hk : k < R.length) (hm : m = R[k]!.length) (hab : b.length ≤ R[k]!.length) (hl : R[k]!.length ≤ 1048576) (hM : Nat.ble (nidl + 0) aQ = true) (hN : Nat.blt d N = true) {md' : Md} [hmd : MdA md (fR [x0,x1] ++ [.inr (k + aQ)]) [.inr (k + aQ),.inl d] md']
  (kk : RW Tryz.prog N all Q md' rest ⟨(d,.tup []) :: tsl,(k + aQ,some (flat cB (fP R[k]! b))) :: hsl,nidl + 0,z0⟩) : RW Tryz.prog N all Q md (⟨some d,.call ⟨.value (.func 225),#[x0,x1],tys⟩,ty,pos,af,none⟩ :: rest) ⟨tsl,hsl,nidl,z0⟩ :=
 y7 (a := R[k]!) (b := b) (i0 := k + aQ) ha0 ha1 (hF.get hk) (CB R[k]! b m hm hab hl) hM hN (md' := md') (hmd := hmd) kk
theorem sO (p:Prg) (Af Ap:List Nat) (hs:aU p.body ≤ 1048576) (w:WG p.types (aB p)) (hAf:oW p.types (aB p) Af) (hAp:m6 p.types (aB p) Ap):PC Tryz.prog 171 [bY p] (fun r => r = sl MN ((List.range (aB p).length).map (dX p.types.length (aB p).length Af Ap))):=by
 have hpl := w.pl
 have hp0 := w.p0
 have htl := w.tl
 refine aC Tryz.func171 Tryz.ntmps171 ?_
 repeat' (first|(apply aF;(apply aA (k := 132);rfl;exact dB p hs;exact Pur.pf;rfl))|refine aE ?_|fail)
 refine dA (σ := Nat) (fun k => List.replicate ((p.types.length + 1) * k) (List.replicate (aB p).length false)) [1,3] [0] (fun k => [(5,iv (k : Int)),(4,.own 1 0 k 2)]) (fun k => [(1,some (flat (E6 p.types.length (aB p).length) (List.range k)))]) (fun k => k ≤ (aB p).length) (fun k => (aB p).length - k) (0) (Nat.zero_le _) ?_
 intro k hk
 try dsimp only
 repeat' (first|(apply aF;first|(with_reducible apply aV (d := 27))|(with_reducible apply aV (d := 6)))|refine aE ?_|(refine aJ ?_ ?_ <;> intro hc hq <;> try (exfalso;omega))|fail)
 ·have hrep : List.replicate ((p.types.length + 1) * k) (List.replicate (aB p).length false) ++ List.replicate (p.types.length + 1) (List.replicate (aB p).length false) = List.replicate ((p.types.length + 1) * (k + 1)) (List.replicate (aB p).length false) := by
   rw [List.replicate_append_replicate,Nat.mul_succ]
  refine bR ?_
  have hst := D1 p.types.length (aB p).length htl hpl
  apply G4 (R := List.replicate ((p.types.length + 1) * k) (List.replicate (aB p).length false)) (avs := [iv (p.types.length : Int),iv ((aB p).length : Int)]) (rr' := Lm (k * (p.types.length + 1)) p.types.length (aB p).length) (h := hst)
  case ha => rfl
  case hp => rfl
  case hF => (repeat' (first|exact FamR.here|(apply FamR.cons;focus rfl)))
  case hz => rfl
  case hM => rfl
  case hN => rfl
  case hr =>
   refine .agg (.cons (.imm (rn_rows fun j hj => ?_)) (.cons (.own ?_) .nil))
   ·rw [if_pos (by rw [List.length_replicate]; omega)]; congr 1;rw [List.length_replicate,Nat.mul_comm]; omega
   ·rw [if_pos (by rw [List.length_replicate]; omega)]; congr 1;rw [List.length_replicate,Nat.mul_comm]; omega
  rw [hrep]
  repeat' (first|(apply aF;(apply bT;rfl;rfl;rfl;rfl;rfl;(case hl => (simp [aI]; done));(rfl);omega;omega;(rfl);rfl;rfl))|refine aE ?_|fail)
  (apply bD (k + 1);focus (refine Le.renF0 [(0,0),(1,3)] (R := ?qA1) (hF := ?qF1) (hz := ?qz1) (hm := ?qm1) (hn := ?qn1) (h1 := ?q11) (h2 := ?q21);(case qF1 => (repeat' (first|exact FamR.here|(apply FamR.cons;focus rfl))));(case qz1 => (rfl));(case qm1 => rfl);(case qn1 => decide);all_goals (repeat' (first|exact trivial|refine And.intro ⟨_,rfl,?_⟩ ?_|refine And.intro ⟨_,_,rfl,rfl,?_⟩ ?_|exact RnL.purI inferInstance|exact RnV.purI inferInstance|exact RnV.own rfl|exact RnV.optr rfl|exact Fs (by show aQ + (List.replicate ((p.types.length + 1) * (k + 1)) (List.replicate (aB p).length false)).length = _; rw [List.length_replicate,Nat.mul_comm])))))
  ·show k + 1 ≤ (aB p).length;omega
  ·show (aB p).length - (k + 1) < (aB p).length - k;omega
 ·have hkN : k = (aB p).length := by omega
  subst hkN
  refine bR (cY ?_ (Le.frzD (d := 4) (i := 1) rfl rfl))
  rw [Nat.mul_comm]
  repeat' (first|refine aE ?_|fail)
  refine dA (σ := List (List Bool) × Bool) (fun s => s.1) [1,3,4] [0] (fun s => [(6,bv s.2)]) (fun s => []) (fun s => FH p.types (aB p) s.1 s.2) (fun s => No p.types (aB p) s.1 s.2) (List.replicate ((aB p).length * (p.types.length + 1)) (List.replicate (aB p).length false),true) (FH.init _ _) ?_
  rintro ⟨R,c⟩ hFH
  try dsimp only at hFH
  try dsimp only
  have hRl := hFH.d.lo
  have hRr := hFH.d.ro
  cases c with
  | false =>
   repeat' (first|refine aE ?_|fail)
   have hfin := hFH.final w hAf hAp
   refine aT (Le.frzAll (d := 2) (D := (List.range R.length).map fun k => k + aQ) rfl (.imm (LdL.flt fun n hn => Ka (R := R) (M := (aB p).length) (by (repeat' (first|exact FamR.here|(apply FamR.cons;focus rfl)))) (fun k hk => List.mem_map.2 ⟨n * (p.types.length + 1) + k,by rw [List.mem_range,hRl]; exact gG (List.mem_range.1 hn) hk,rfl⟩) hRl (List.mem_range.1 hn) hRr))) ?_
   refine aD rfl ⟨?_,(by (exact a6 _ _))⟩
   simp only [aM]
   have e1 : (List.range (aB p).length).map (fun n => (jT p.types.length R n, kB p.types.length R n)) = (List.range (aB p).length).map (dX p.types.length (aB p).length Af Ap) := List.map_congr_left fun n hn => by
    have := hfin n (List.mem_range.1 hn)
    rw [this.1,this.2]
   have e2 : flat (fun n => [sl fQ (jT p.types.length R n), sl cB (kB p.types.length R n)]) (List.range (aB p).length) = flat MN ((List.range (aB p).length).map (dX p.types.length (aB p).length Af Ap)) := by
    rw [← e1,flat,flat,List.flatMap_map]; rfl
   rw [e2]
   simp only [sl,List.length_map,List.length_range]
  | true =>
   have hst := hFH.start
   repeat' (first|refine aE ?_|fail)
   refine dA (σ := Nat × List (List Bool) × Bool) (fun s => s.2.1) [1,3,4] [0] (fun s => [(6,bv s.2.2),(7,iv (s.1 : Int))]) (fun s => []) (fun s => s.1 ≤ (aB p).length ∧ FS p.types (aB p) R s.2.1 s.2.2 (DF s.1 0)) (fun s => (aB p).length - s.1) (0,R,false) ⟨Nat.zero_le _,hst⟩ ?_
   rintro ⟨j,R1,c1⟩ ⟨hj,hS1⟩
   dsimp only at hj hS1
   have hl1 := hS1.d.lo
   try dsimp only
   by_cases hjn : j < (aB p).length
   ·have hnl := w.nl j hjn
    repeat' (first|(apply aF;first|(apply AI (k := 223) (R := R1) (avs0 := [sl cI p.types,sl cC (aB p),iv (j : Int),Lm 0 p.types.length (aB p).length]) (b := j * (p.types.length + 1)) (n1 := 0) (D := Jy (j * (p.types.length + 1))) (ws := []) (h := D9 p.types (aB p) w j hjn R1 hS1.d) (rr' := .agg [sl fQ (pB p.types (aB p) j (jT p.types.length R1 j)),sl cB (pA p.types (aB p) j (kB p.types.length R1 j))]);(case ha => rfl);(case hF => (repeat' (first|exact FamR.here|(apply FamR.cons;focus rfl))));(case hb => (rw [jY hl1 hjn]; have := gG (v := p.types.length) hjn (Nat.lt_succ_self _);omega));(case hR => exact fun k hk => tB hl1 hjn (by rwa [jY hl1 hjn] at hk));(case hD => exact fun k hk => AH (by rw [jY hl1 hjn] at hk;omega));(case har => exact .cons (RnV.purI inferInstance) (.cons (RnV.purI inferInstance) (.cons (RnV.purI inferInstance) (.cons (.agg (.cons (.imm (rn_rows fun k hk => (by rw [Nat.zero_add,mK (by rw [jY hl1 hjn]; omega)]))) (.cons (.own (by rw [Nat.zero_add,mK (by rw [jY hl1 hjn]; omega)])) .nil))) .nil))));(case hk => rfl);(case hr => exact RnV.purI inferInstance);(case hw => exact trivial);(case hM|hN => rfl))|(apply nH;rfl;rfl;(assumption);rfl;infer_instance;infer_instance;rfl)|(apply a7;rfl;rfl;rfl;rfl;rfl;(case hl => (simp;done));(exact (rfl:_=[_,_]))))|refine aE ?_|(refine aJ ?_ ?_ <;> intro hc hq <;> try (exfalso;omega))|refine bJ ?_|fail)
    refine dA (σ := Nat × List (List Bool) × Bool) (fun s => s.2.1) [1,3,4,7,8] [0,2] (fun s => [(6,bv s.2.2),(9,iv (s.1 : Int))]) (fun s => []) (fun s => s.1 ≤ (aB p)[j]!.next.length ∧ FS p.types (aB p) R s.2.1 s.2.2 (DF j s.1) ∧ (s.2.2 = false → s.2.1 = R1)) (fun s => (aB p)[j]!.next.length - s.1) (0,R1,c1) ⟨Nat.zero_le _,hS1,fun _ => rfl⟩ ?_
    rintro ⟨kk,R2,c2⟩ ⟨hk,hS2,hc2⟩
    dsimp only at hk hS2 hc2
    have hl2 := hS2.d.lo
    have hr2 := hS2.d.ro
    try dsimp only
    by_cases hkn : kk < (aB p)[j]!.next.length
    ·have hnx := w.nx j hjn _ (aP _ _ hkn)
     have hnn : ((aB p)[j]!.next[kk]!).toNat < (aB p).length := by omega
     have hix : ((aB p)[j]!.next[kk]!).toNat * (p.types.length + 1) + p.types.length < R2.length := by rw [hl2]; exact gG hnn (by omega)
     have hrix := hr2 _ hix
     have hqa := cT p.types (aB p) j (kB p.types.length R1 j)
     have hw1 := Bs (pB p.types (aB p) j (jT p.types.length R1 j)) (jT p.types.length R2 ((aB p)[j]!.next[kk]!).toNat) (pA p.types (aB p) j (kB p.types.length R1 j)) (kB p.types.length R2 ((aB p)[j]!.next[kk]!).toNat) (by rw [cT]; exact hpl) (by rw [dR]; exact htl)
      (by rw [cT]; exact hr2 _ (by rw [hl2]; exact gG hnn (by omega))) (by rw [dR]; exact qX hl2 hnn) (fun v hv => by rw [dR] at hv;rw [cT]; exact Dk w hS1.d hjn hv) (fun v hv => by rw [dR] at hv;rw [cT,gS hl2 hnn hv]; exact hr2 _ (by rw [hl2]; exact gG hnn (by omega)))
     repeat' (first|(apply aF;first|((with_reducible apply lB (k := 224) (D := Jy (((aB p)[j]!.next[kk]!).toNat * (p.types.length + 1))) (h := hw1));(case ha => rfl);(case hl => exact .cons (.pur (PurV.pf)) (.cons (.agg (Ka (R := R2) (M := (aB p).length) (by (repeat' (first|exact FamR.here|(apply FamR.cons;focus rfl)))) (fun k hk => AH (by omega)) hl2 hnn hr2)) .nil));(case hfr|hN => rfl))|(apply tA;rfl;rfl;(case hF => (repeat' (first|exact FamR.here|(apply FamR.cons;focus rfl))));omega;omega;omega;omega;rfl;rfl)|(with_reducible apply aV (d := 11))|(apply fK;rfl;rfl;(assumption);rfl;infer_instance;infer_instance;rfl))|refine aE ?_|(refine aJ ?_ ?_ <;> intro hc hq <;> try (exfalso;omega))|refine bJ ?_|fail)
     ·refine bR ?_
      apply cY
      case k =>
       apply Le.fset (R := R2) (hk := hix)
       (repeat' (first|exact FamR.here|(apply FamR.cons;focus rfl)))
      rw [Ht hix]
      repeat' (first|refine aE ?_|fail)
      refine dA (σ := Nat) (fun v => AE R2 (((aB p)[j]!.next[kk]!).toNat * (p.types.length + 1)) p.types.length (pB p.types (aB p) j (jT p.types.length R1 j)) (pA p.types (aB p) j (kB p.types.length R1 j)) v) [1,3,4,7,8,9,10] [0,2] (fun v => [(11,iv (v : Int))]) (fun v => []) (fun v => v ≤ p.types.length) (fun v => p.types.length - v) (0) (Nat.zero_le _) ?_
      intro v hv
      try dsimp only
      have hjl := fH R2 (((aB p)[j]!.next[kk]!).toNat * (p.types.length + 1)) p.types.length (pB p.types (aB p) j (jT p.types.length R1 j)) (pA p.types (aB p) j (kB p.types.length R1 j)) v
      have hal := dR p.types (aB p) j (jT p.types.length R1 j)
      by_cases hvn : v < p.types.length
      ·have hav := Dk w hS1.d hjn hvn
       have hjr : (AE R2 (((aB p)[j]!.next[kk]!).toNat * (p.types.length + 1)) p.types.length (pB p.types (aB p) j (jT p.types.length R1 j)) (pA p.types (aB p) j (kB p.types.length R1 j)) v)[((aB p)[j]!.next[kk]!).toNat * (p.types.length + 1) + v]!.length = (aB p).length := by
        rw [fS _ _ _ _ _ _ _ (by omega),if_neg (by omega),if_neg (by omega)]; exact hr2 _ (by omega)
       repeat' (first|(apply aF;first|(apply tA;rfl;rfl;(case hF => (repeat' (first|exact FamR.here|(apply FamR.cons;focus rfl))));omega;omega;omega;omega;rfl;rfl)|(with_reducible apply aV (d := 84))|(apply nH;rfl;rfl;(assumption);rfl;infer_instance;infer_instance;rfl)|(apply fK;rfl;rfl;(assumption);rfl;infer_instance;infer_instance;rfl))|refine aE ?_|(refine aJ ?_ ?_ <;> intro hc hq <;> try (exfalso;omega))|refine bJ ?_|fail)
       refine bR ?_
       apply cY
       case k =>
        apply Le.fset (R := AE R2 (((aB p)[j]!.next[kk]!).toNat * (p.types.length + 1)) p.types.length (pB p.types (aB p) j (jT p.types.length R1 j)) (pA p.types (aB p) j (kB p.types.length R1 j)) v) (hk := (by omega))
        (repeat' (first|exact FamR.here|(apply FamR.cons;focus rfl)))
       rw [GK hix hvn]
       repeat' (first|refine aE ?_|fail)
       (apply bD (v + 1);focus (refine Le.renF0 [(0,0),(2,2)] (R := ?qA2) (hF := ?qF2) (hz := ?qz2) (hm := ?qm2) (hn := ?qn2) (h1 := ?q12) (h2 := ?q22);(case qF2 => (repeat' (first|exact FamR.here|(apply FamR.cons;focus rfl))));(case qz2 => (simp only [fH]));(case qm2 => rfl);(case qn2 => decide);all_goals (repeat' (first|exact trivial|refine And.intro ⟨_,rfl,?_⟩ ?_|refine And.intro ⟨_,_,rfl,rfl,?_⟩ ?_|exact RnL.purI inferInstance|exact RnV.purI inferInstance|exact RnV.optr rfl|exact RnV.imm (pI (M := (aB p).length) (Nat.le_refl _) (by show aQ + (AE _ _ _ _ _ _).length = _; rw [fH,hl2]))))))
       ·show v + 1 ≤ p.types.length;omega
       ·show p.types.length - (v + 1) < p.types.length - v;omega
      ·repeat' (first | refine aE ?_ | (refine aJ ?_ ?_ <;> intro hc hq <;> try (exfalso; omega))|fail)
       have hvN : v = p.types.length := by omega
       subst hvN
       have hw3 : D4 (pB p.types (aB p) j (jT p.types.length R1 j)) (jT p.types.length R2 ((aB p)[j]!.next[kk]!).toNat) (pA p.types (aB p) j (kB p.types.length R1 j)) (kB p.types.length R2 ((aB p)[j]!.next[kk]!).toNat) = false := by assumption
       (apply bD (kk + 1,_,true);focus (refine Le.renF0 [(0,0),(2,2)] (R := ?qA3) (hF := ?qF3) (hz := ?qz3) (hm := ?qm3) (hn := ?qn3) (h1 := ?q13) (h2 := ?q23);(case qF3 => (repeat' (first|exact FamR.here|(apply FamR.cons;focus rfl))));(case qz3 => (rfl));(case qm3 => rfl);(case qn3 => decide);all_goals (repeat' (first|exact trivial|refine And.intro ⟨_,rfl,?_⟩ ?_|refine And.intro ⟨_,_,rfl,rfl,?_⟩ ?_|exact RnL.purI inferInstance|exact RnV.purI inferInstance|exact RnV.optr rfl|exact RnV.imm (pI (M := (aB p).length) (Nat.le_refl _) (by show aQ + (AE _ _ _ _ _ _).length = _; rw [fH,hl2]))))))
       ·exact ⟨(by show kk + 1 ≤ (aB p)[j]!.next.length;omega),hS2.hit w (DF j (kk + 1)) hS1.d hjn hkn hw3,fun h => (by cases h)⟩
       ·show (aB p)[j]!.next.length - (kk + 1) < (aB p)[j]!.next.length - kk;omega
     ·(apply bD (kk + 1, R2, c2); focus (refine Le.renF0 [(0, 0), (2, 2)] (R := ?qA4) (hF := ?qF4) (hz := ?qz4) (hm := ?qm4) (hn := ?qn4) (h1 := ?q14) (h2 := ?q24); (case qF4 => (repeat' (first | exact FamR.here | (apply FamR.cons; focus rfl)))); (case qz4 => (rfl)); (case qm4 => rfl); (case qn4 => decide); all_goals (repeat' (first | exact trivial | refine And.intro ⟨_, rfl, ?_⟩ ?_ | refine And.intro ⟨_, _, rfl, rfl, ?_⟩ ?_ | exact RnL.purI inferInstance | exact RnV.purI inferInstance | exact RnV.optr rfl | exact RnV.imm (pI (M := (aB p).length) (Nat.le_refl _) (by show aQ + R2.length = _; rw [hl2]))))))
      ·refine ⟨(by show kk + 1 ≤ (aB p)[j]!.next.length;omega),hS2.skip (i := j) (k := kk) hc2 (by assumption) (fun i' k' _ _ hd => by unfold DF at hd ⊢; omega),hc2⟩
      ·show (aB p)[j]!.next.length - (kk + 1) < (aB p)[j]!.next.length - kk;omega
    ·repeat' (first | refine aE ?_ | (refine aJ ?_ ?_ <;> intro hc hq <;> try (exfalso; omega))|fail)
     (apply bD (j + 1,R2,c2);focus (refine Le.renF0 [(0,0)] (R := ?qA5) (hF := ?qF5) (hz := ?qz5) (hm := ?qm5) (hn := ?qn5) (h1 := ?q15) (h2 := ?q25);(case qF5 => (repeat' (first|exact FamR.here|(apply FamR.cons;focus rfl))));(case qz5 => (rfl));(case qm5 => rfl);(case qn5 => decide);all_goals (repeat' (first|exact trivial|refine And.intro ⟨_,rfl,?_⟩ ?_|refine And.intro ⟨_,_,rfl,rfl,?_⟩ ?_|exact RnL.purI inferInstance|exact RnV.purI inferInstance|exact RnV.optr rfl|exact RnV.imm (pI (M := (aB p).length) (Nat.le_refl _) (by show aQ + R2.length = _; rw [hl2]))))))
     ·refine ⟨(by show j + 1 ≤ (aB p).length; omega), hS2.mono fun i' k' _ hk' hd => ?_⟩
      unfold DF at hd ⊢
      by_cases e : i' = j
      ·subst e;omega
      ·omega
     ·show (aB p).length - (j + 1) < (aB p).length - j;omega
   ·repeat' (first | refine aE ?_ | (refine aJ ?_ ?_ <;> intro hc hq <;> try (exfalso; omega))|fail)
    (apply bD (R1,c1);focus (refine Le.renF0 [(0,0)] (R := ?qA6) (hF := ?qF6) (hz := ?qz6) (hm := ?qm6) (hn := ?qn6) (h1 := ?q16) (h2 := ?q26);(case qF6 => (repeat' (first|exact FamR.here|(apply FamR.cons;focus rfl))));(case qz6 => (rfl));(case qm6 => rfl);(case qn6 => decide);all_goals (repeat' (first|exact trivial|refine And.intro ⟨_,rfl,?_⟩ ?_|refine And.intro ⟨_,_,rfl,rfl,?_⟩ ?_|exact RnL.purI inferInstance|exact RnV.purI inferInstance|exact RnV.optr rfl|exact RnV.imm (pI (M := (aB p).length) (Nat.le_refl _) (by show aQ + R1.length = _; rw [hl1]))))))
    ·exact (hS1.fin (by omega)).1
    ·exact (hS1.fin (by omega)).2
instance (s : List (List Bool) × List Bool) : Pur (MN s):=⟨by show ((sl fQ s.1).pur && ((sl cB s.2).pur && true)) = true;rw [a6,a6]; rfl⟩
def ID (ts : List Int) (pts : List Pnt) (Aa : List Nat) (i k : Nat) : List Iss := ((List.range k).filter (qA ts pts Aa i)).map (fun (v : Nat) => ⟨i,1,v⟩)
def IV (pts : List Pnt) (cf : List Bool) (i k : Nat) : List Iss := ((List.range k).filter (fun (l : Nat) => cf[l]!)).map (fun (l : Nat) => ⟨i,Ci pts l,l⟩)
theorem yA {ts:List Int}{pts:List Pnt}{Aa:List Nat}{i k:Nat}(h:qA ts pts Aa i k = true):ID ts pts Aa i (k + 1) = ID ts pts Aa i k ++ [⟨i,1,k⟩]:=by
 unfold ID;rw [iE,if_pos h,List.map_append]; rfl
theorem j4 {ts:List Int}{pts:List Pnt}{Aa:List Nat}{i k:Nat}(h:qA ts pts Aa i k = false):ID ts pts Aa i (k + 1) = ID ts pts Aa i k:=by
 unfold ID;rw [iE,if_neg (by rw [h]; decide),List.append_nil]
theorem l9 {pts:List Pnt}{cf:List Bool}{i k:Nat}(h:cf[k]! = true):IV pts cf i (k + 1) = IV pts cf i k ++ [⟨i,Ci pts k,k⟩]:=by
 unfold IV;rw [iE,if_pos h,List.map_append]; rfl
theorem tN {pts:List Pnt}{cf:List Bool}{i k:Nat}(h:cf[k]! = false):IV pts cf i (k + 1) = IV pts cf i k:=by
 unfold IV;rw [iE,if_neg (by rw [h]; decide),List.append_nil]
theorem Du (p:Prg) (f:Flows p.types (aB p)) (hs:aU p.body ≤ 1048576) (w:WG p.types (aB p)) (hr:Rch (aB p)):PC Tryz.prog 169 [bY p,sl fQ (bE p.types.length (aB p).length f.Al)] (fun r => r = sl dG f.iss):=by
 have hpl := w.pl
 have hp0 := w.p0
 have htl := w.tl
 have hfa := eT p true f.Aa hs w hr (by unfold jP;exact f.ga)
 have hfm := eT p false f.Am hs w hr (by unfold jP;exact f.gm)
 have hfl := sO p f.Af f.Ap hs w f.gf f.gp
 have hra := cK p.types.length (aB p).length f.Aa
 have hrm := cK p.types.length (aB p).length f.Am
 have hrl := cK p.types.length (aB p).length f.Al
 have hfll : ((List.range (aB p).length).map (dX p.types.length (aB p).length f.Af f.Ap)).length = (aB p).length := by simp
 refine aC Tryz.func169 Tryz.ntmps169 ?_
 repeat' (first|(apply aF;first|(apply aA (k := 132);rfl;exact dB p hs;exact Pur.pf;rfl)|(apply aA (k := 64) (d := 20);rfl;exact hfa;exact Pur.pf;rfl)|(apply aA (k := 64) (d := 22);rfl;exact hfm;exact Pur.pf;rfl)|(apply aA (k := 171);rfl;exact hfl;exact Pur.pf;rfl))|refine aE ?_|fail)
 refine aH (σ := Nat × List Iss × Nat) [1,2,6,7,8,9] [0] (fun s => [(10,iv (s.1 : Int)),(5,.own 1 0 s.2.2 3)]) (fun s => [(1,some (flat dG s.2.1))]) (fun s => s.1 ≤ (aB p).length ∧ s.2.1 = kH p.types (aB p) f.Aa f.Am f.Al f.Af f.Ap s.1 ∧ s.2.2 = s.2.1.length ∧ s.2.2 ≤ 67 * s.1) (fun s => (aB p).length - s.1) (0,[],0) ⟨Nat.zero_le _,rfl,rfl,Nat.le_refl _⟩ ?_
 rintro ⟨i,L,m⟩ ⟨hi,hL,hm,hmb⟩
 dsimp only at hi hL hm hmb
 try dsimp only
 by_cases hin : i < (aB p).length
 ·repeat' (first | refine aE ?_ | (refine aJ ?_ ?_ <;> intro hc hq <;> try (exfalso; omega))|fail)
  refine aH (σ := Nat × List Iss × Nat) [1,2,6,7,8,9,10] [0] (fun s => [(11,iv (s.1 : Int)),(5,.own 1 0 s.2.2 3)]) (fun s => [(1,some (flat dG s.2.1))]) (fun s => s.1 ≤ p.types.length ∧ s.2.1 = L ++ ID p.types (aB p) f.Aa i s.1 ∧ s.2.2 = s.2.1.length ∧ s.2.2 ≤ 67 * i + s.1) (fun s => p.types.length - s.1) (0,L,m) ⟨Nat.zero_le _,(List.append_nil L).symm,hm,hmb⟩ ?_
  rintro ⟨v,L2,m2⟩ ⟨hv,hL2,hm2,hmb2⟩
  dsimp only at hv hL2 hm2 hmb2
  try dsimp only
  by_cases hvn : v < p.types.length
  ·have hga := gH p.types.length (aB p).length f.Aa i v hin hvn
   have hgl : (bE p.types.length (aB p).length f.Aa)[i]!.length = p.types.length := by rw [cD _ _ _ _ hin]; simp
   repeat' (first|(apply aF;(apply aA (k := 173);rfl;(apply jI <;> (omega));exact Pur.pf;rfl))|refine aE ?_|(refine aJ ?_ ?_ <;> intro hc hq <;> try (exfalso;omega))|(refine bS ?_ ?_ <;> intro hg hq <;> try (exfalso;omega))|refine bJ ?_|fail)
   ·(refine bD (v + 1, L2 ++ [⟨i, 1, v⟩], m2 + 1) (Le.renA [(0, 0), (1, 3)]) ?_ ?_)
    ·have hu : qA p.types (aB p) f.Aa i v = true := by
      unfold qA;rw [← hga,decide_eq_false (by assumption),(by assumption : (bE p.types.length (aB p).length f.Aa)[i]![v]! = false)]; rfl
     exact ⟨(by show v + 1 ≤ p.types.length;omega),(by show L2 ++ [⟨i,1,v⟩] = _; rw [hL2,List.append_assoc,← yA hu]),(by show m2 + 1 = (L2 ++ [_]).length;rw [List.length_append,List.length_singleton,hm2]),(by show m2 + 1 ≤ 67 * i + (v + 1);omega)⟩
    ·show p.types.length - (v + 1) < p.types.length - v;omega
   ·(refine bD (v + 1, L2, m2) (Le.renA [(0, 0), (1, 1)]) ?_ ?_)
    ·have hu : qA p.types (aB p) f.Aa i v = false := by
      unfold qA;rw [← hga,(by assumption : (bE p.types.length (aB p).length f.Aa)[i]![v]! = true)]; simp
     exact ⟨(by show v + 1 ≤ p.types.length;omega),(by show L2 = _; rw [j4 hu]; exact hL2),hm2,(by show m2 ≤ 67 * i + (v + 1);omega)⟩
    ·show p.types.length - (v + 1) < p.types.length - v;omega
   ·(refine bD (v + 1, L2, m2) (Le.renA [(0, 0), (1, 1)]) ?_ ?_)
    ·have hu : qA p.types (aB p) f.Aa i v = false := by
      unfold qA;rw [decide_eq_true (by assumption)]; rfl
     exact ⟨(by show v + 1 ≤ p.types.length;omega),(by show L2 = _; rw [j4 hu]; exact hL2),hm2,(by show m2 ≤ 67 * i + (v + 1);omega)⟩
    ·show p.types.length - (v + 1) < p.types.length - v;omega
  ·have hvN : v = p.types.length := by omega
   have hset := w.set i hin
   have hy := w.y i hin
   have hfi : ((List.range (aB p).length).map (dX p.types.length (aB p).length f.Af f.Ap))[i]! = dX p.types.length (aB p).length f.Af f.Ap i := aX _ _ _ hin
   have hgm : (bE p.types.length (aB p).length f.Am)[i]!.length = p.types.length := by rw [cD _ _ _ _ hin]; simp
   have hgl : (bE p.types.length (aB p).length f.Al)[i]!.length = p.types.length := by rw [cD _ _ _ _ hin]; simp
   have hf2 : (dX p.types.length (aB p).length f.Af f.Ap i).2.length = (aB p).length := by simp [dX]
   have hf1 : (dX p.types.length (aB p).length f.Af f.Ap i).1.length = p.types.length := by simp [dX]
   have hf3 : ∀ v, v < p.types.length → (dX p.types.length (aB p).length f.Af f.Ap i).1[v]!.length = (dX p.types.length (aB p).length f.Af f.Ap i).2.length := fun v hv => by
    rw [hf2]; unfold dX;dsimp only;rw [aX _ _ _ hv]; simp
   have hacc := kE p.types (aB p)[i]! (bE p.types.length (aB p).length f.Am)[i]! htl hgm hset.1 hy
   have hlv := rY p.types (aB p)[i]! ((List.range (aB p).length).map (dX p.types.length (aB p).length f.Af f.Ap))[i]!.1 ((List.range (aB p).length).map (dX p.types.length (aB p).length f.Af f.Ap))[i]!.2 (bE p.types.length (aB p).length f.Al)[i]! htl (by rw [hfi,hf2]; exact hpl) hgl (by rw [hfi]; exact hf1) (by rw [hfi]; exact hf3)
   have hlvl : (uA p.types (aB p)[i]! ((List.range (aB p).length).map (dX p.types.length (aB p).length f.Af f.Ap))[i]!.1 (bE p.types.length (aB p).length f.Al)[i]! ((List.range (aB p).length).map (dX p.types.length (aB p).length f.Af f.Ap))[i]!.2.length).length = (aB p).length := by unfold uA;rw [List.length_map,List.length_range,hfi,hf2]
   have hcn := jS (aB p) (fE p.types (aB p)[i]! (bE p.types.length (aB p).length f.Am)[i]![(aN (aB p)[i]!).toNat]!) ((List.range (aB p).length).map (dX p.types.length (aB p).length f.Af f.Ap))[i]!.1 ((List.range (aB p).length).map (dX p.types.length (aB p).length f.Af f.Ap))[i]!.2 (uA p.types (aB p)[i]! ((List.range (aB p).length).map (dX p.types.length (aB p).length f.Af f.Ap))[i]!.1 (bE p.types.length (aB p).length f.Al)[i]! ((List.range (aB p).length).map (dX p.types.length (aB p).length f.Af f.Ap))[i]!.2.length) hpl (by have := o6 p.types (aB p)[i]! (bE p.types.length (aB p).length f.Am)[i]![(aN (aB p)[i]!).toNat]!; omega) (by rw [hfi]; exact hf2) hlvl
   have hcf : IP (aB p) (fE p.types (aB p)[i]! (bE p.types.length (aB p).length f.Am)[i]![(aN (aB p)[i]!).toNat]!) ((List.range (aB p).length).map (dX p.types.length (aB p).length f.Af f.Ap))[i]!.2 (uA p.types (aB p)[i]! ((List.range (aB p).length).map (dX p.types.length (aB p).length f.Af f.Ap))[i]!.1 (bE p.types.length (aB p).length f.Al)[i]! ((List.range (aB p).length).map (dX p.types.length (aB p).length f.Af f.Ap))[i]!.2.length) = xK p.types (aB p) f.Am f.Al f.Af f.Ap i := by
    rw [hfi,hf2]; rfl
   have hcl : (xK p.types (aB p) f.Am f.Al f.Af f.Ap i).length = (aB p).length := by unfold xK;rw [nX]
   repeat' (first|(apply aF;first|(apply aA (k := 175);rfl;exact hacc;exact Pur.pf;rfl)|(apply aA (k := 176);rfl;exact hlv;exact Pur.pf;rfl)|(apply aA (k := 174);rfl;exact hcn;exact Pur.pf;rfl)|(with_reducible apply aV (d := 14)))|refine aE ?_|(refine aJ ?_ ?_ <;> intro hc hq <;> try (exfalso;omega))|refine bJ ?_|fail)
   refine bR ?_
   rw [hcf]
   repeat' (first|refine aE ?_|fail)
   refine aH (σ := Nat × List Iss × Nat) [1,2,6,7,8,9,10,13] [0] (fun s => [(14,iv (s.1 : Int)),(5,.own 1 0 s.2.2 3)]) (fun s => [(1,some (flat dG s.2.1))]) (fun s => s.1 ≤ (aB p).length ∧ s.2.1 = L2 ++ IV (aB p) (xK p.types (aB p) f.Am f.Al f.Af f.Ap i) i s.1 ∧ s.2.2 = s.2.1.length ∧ s.2.2 ≤ 67 * i + 6 + s.1) (fun s => (aB p).length - s.1) (0,L2,m2) ⟨Nat.zero_le _,(List.append_nil L2).symm,hm2,by show m2 ≤ 67 * i + 6 + 0;omega⟩ ?_
   rintro ⟨l,L3,m3⟩ ⟨hl,hL3,hm3,hmb3⟩
   dsimp only at hl hL3 hm3 hmb3
   try dsimp only
   by_cases hln : l < (aB p).length
   ·repeat' (first | refine aE ?_ | (refine aJ ?_ ?_ <;> intro hc hq <;> try (exfalso; omega))|fail)
    ·(refine bD (l + 1, L3, m3) (Le.renA [(0, 0), (1, 1)]) ?_ ?_)
     ·exact ⟨(by show l + 1 ≤ (aB p).length;omega),(by show L3 = _; rw [tN (by assumption)]; exact hL3),hm3,(by show m3 ≤ 67 * i + 6 + (l + 1);omega)⟩
     ·show (aB p).length - (l + 1) < (aB p).length - l;omega
    ·(refine bD (l + 1, L3 ++ [⟨i, 3, l⟩], m3 + 1) (Le.renA [(0, 0), (1, 3)]) ?_ ?_)
     ·have hk : Ci (aB p) l = 3 := by unfold Ci; rw [if_pos (by assumption)]
      exact ⟨(by show l + 1 ≤ (aB p).length;omega),(by show L3 ++ [⟨i,3,l⟩] = _; rw [hL3,List.append_assoc,← hk,← l9 (by assumption)]),(by show m3 + 1 = (L3 ++ [_]).length;rw [List.length_append,List.length_singleton,hm3]),(by show m3 + 1 ≤ 67 * i + 6 + (l + 1);omega)⟩
     ·show (aB p).length - (l + 1) < (aB p).length - l;omega
    ·(refine bD (l + 1, L3 ++ [⟨i, 2, l⟩], m3 + 1) (Le.renA [(0, 0), (1, 3)]) ?_ ?_)
     ·have hk : Ci (aB p) l = 2 := by unfold Ci; rw [if_neg (by assumption)]
      exact ⟨(by show l + 1 ≤ (aB p).length;omega),(by show L3 ++ [⟨i,2,l⟩] = _; rw [hL3,List.append_assoc,← hk,← l9 (by assumption)]),(by show m3 + 1 = (L3 ++ [_]).length;rw [List.length_append,List.length_singleton,hm3]),(by show m3 + 1 ≤ 67 * i + 6 + (l + 1);omega)⟩
     ·show (aB p).length - (l + 1) < (aB p).length - l;omega
   ·repeat' (first | refine aE ?_ | (refine aJ ?_ ?_ <;> intro hc hq <;> try (exfalso; omega))|fail)
    (refine bD (i + 1,L3,m3) (Le.renA [(0,0),(1,1)]) ?_ ?_)
    ·refine ⟨(by show i + 1 ≤ (aB p).length; omega), ?_, hm3, (by show m3 ≤ 67 * (i + 1); omega)⟩
     show L3 = kH p.types (aB p) f.Aa f.Am f.Al f.Af f.Ap (i + 1)
     rw [iH,← Ko w f hin,hL3,hL2,hL,hvN,show l = (aB p).length by omega,List.append_assoc]
     rfl
    ·show (aB p).length - (i + 1) < (aB p).length - i;omega
 ·repeat' (first | refine aE ?_ | (refine aJ ?_ ?_ <;> intro hc hq <;> try (exfalso; omega))|fail)
  have hiN : i = (aB p).length := by omega
  refine aT (Le.frzD (d := 4) (i := 1) rfl rfl) ?_
  refine aD rfl ⟨?_,(by (exact a6 _ _))⟩
  simp only [aM]
  rw [hm,hL,hiN]; rfl
theorem Fk (p:Prg) (f:Flows p.types (aB p)) (hl:p.types.length ≤ 1048576) (hs:aU p.body ≤ 1048576):PC Tryz.prog 98 [bY p] (fun r => r = sl dG (ET p f)):=by
 unfold ET
 cases hv : bI p
 ·have hval := fW p hl (by omega)
  rw [hv] at hval
  refine aC Tryz.func98 Tryz.ntmps98 ?_
  repeat' (first|(apply aF;first|(apply aA (k := 61);rfl;exact hval;exact Pur.pf;rfl)|(apply aL (t := _);rfl;rfl;rfl;(rfl);rfl;rfl))|refine aE ?_|fail)
  exact aD rfl ⟨rfl,rfl⟩
 ·have w := WG.of_valid hv
  have hr := Rch.of p
  have hval := fW p hl (by omega)
  rw [hv] at hval
  have hlv := A6 p f.Al hs w f.gl
  have hck := Du p f hs w hr
  refine aC Tryz.func98 Tryz.ntmps98 ?_
  repeat' (first|(apply aF;first|(apply aA (k := 61);rfl;exact hval;exact Pur.pf;rfl)|(apply aA (k := 170);rfl;exact hlv;exact Pur.pf;rfl)|(apply aA (k := 169);rfl;exact hck;exact Pur.pf;rfl))|refine aE ?_|refine bJ ?_|fail)
  exact aD rfl ⟨rfl,(by (exact a6 _ _))⟩
def J6 (bs : List UInt8) (q : Int) : Int := ((bs[(q % (bs.length : Int)).toNat]!).toNat : Int) * 131 + ((bs[((q * 7 + 3) % (bs.length : Int)).toNat]!).toNat : Int) * 1117 + q * 29 + q / (bs.length : Int) * 53
def vB (bs : List UInt8) (p : Nat) (n : Int) : Int :=
 if n < 1 then 0 else if (bs.length : Int) = 0 then 0 else
 if (p : Int) + 1 - 1 < (bs.length : Int) then ((bs[((p : Int) + 1 - 1).toNat]!).toNat : Int) % n
 else (((J6 bs ((p : Int) + 1 - 1)).toNat ^^^ (J6 bs ((p : Int) + 1 - 1) / 64).toNat : Nat) : Int) % n
theorem GB (bs:List UInt8) (p:Nat) (n:Int):0 ≤ vB bs p n ∧ (vB bs p n < n ∨ n < 1 ∧ vB bs p n = 0):=by
 unfold vB
 split
 ·omega
 ·split
  ·omega
  ·split
   ·exact ⟨Int.emod_nonneg _ (by omega),.inl (Int.emod_lt_of_pos _ (by omega))⟩
   ·exact ⟨Int.emod_nonneg _ (by omega),.inl (Int.emod_lt_of_pos _ (by omega))⟩
def st (op x y n : Int) : AL.Stmt := .mk op x y n [] []
theorem k3 (bs:List UInt8) (p:Nat):(vB bs p 3).toNat ≤ 2 := by have := GB bs p 3;omega
attribute [local irreducible] vB
end Go.Proofs.YtahdccneecdmmaaGreat
namespace Go.Proofs.YtahdccneecdmmaaGreat
open Go.AL Go.RowKit
variable {N : Nat} {Q : Exit → AS → Prop} {all : Array Oper} {rest : List Oper} {tsl : List (Nat × AV)} {hsl : List (Nat × Option (List AV))} {nidl : Nat} {z0 : Lo} {md : Md} {d : Nat} {ty : TypeId} {pos : String} {af : Array Edge} {tys : Array TypeId}
def u1 (Af : List Nat) (i loan : Int) (v : Int) : Bool := (b7 Af i.toNat)[v.toNat]!.testBit loan.toNat
theorem Ew (ts:List Int) (bd:List AL.Stmt) (pts:List Pnt) (w:WG ts pts):PC Tryz.prog 187 [aG ts bd pts] (fun r => r = sl xX (kC ts pts pts.length)):=by
 have hpl := w.pl
 have htl := w.tl
 refine aC Tryz.func187 Tryz.ntmps187 ?_
 repeat' (first|(apply aF;((apply eY (d := 3) (e := 3));(case hM|hN => rfl)))|refine aE ?_|fail)
 refine aH (σ := Nat × List Bnd × Nat) [0,9,10] [] (fun s => [(11,iv (s.1 : Int)),(3,.own 0 0 s.2.2 3)]) (fun s => [(0,some (flat xX s.2.1))]) (fun s => s.1 ≤ pts.length ∧ s.2.1 = kC ts pts s.1 ∧ s.2.2 = s.2.1.length ∧ s.2.2 ≤ 2 * s.1) (fun s => pts.length - s.1) (0,[],0) ⟨by omega,rfl,rfl,Nat.le_refl _⟩ ?_
 rintro ⟨k,u,m⟩ ⟨hk,hu,hm,hmk⟩
 dsimp only at hk hu hm hmk
 try dsimp only
 by_cases hkn : k < pts.length
 ·have hy := w.y k hkn
  have hsu := tP ts pts k
  rw [← hu] at hsu
  unfold Ke at hsu
  by_cases hln : bU pts[k]! = true
  ·have hop := iC hln
   repeat' (first|(apply aF;first|(apply bT;rfl;rfl;rfl;rfl;rfl;(first|(rw [aI]; omega)|(rw [aI]; simp only [fT] <;> omega));(rfl);omega;omega;(exact qT (by (first|assumption|(simp only [fT] <;> omega))));rfl;rfl)|((apply aL (t := _));(case hze|hsm|hl => rfl);(case hfl => (exact (rfl:_=some [_,_,_])));(case hM|hN => rfl))|(first|((with_reducible apply aA (k := 233));(case ha => rfl);(case h => (apply iW <;> (fail)));(case hp => (exact Pur.pf));(case hN => rfl))|((with_reducible apply aA (k := 234));(case ha => rfl);(case h => (apply nT <;> (fail)));(case hp => (rfl));(case hN => rfl))))|refine aE ?_|(refine aJ ?_ ?_ <;> intro hc hq <;> try (exfalso;omega))|refine bJ ?_|fail)
   all_goals try exact absurd (hln.symm.trans (by assumption : bU pts[k]! = false)) (by decide)
   ·(refine bD (k + 1, _, _) (Le.renA [(0, 5)]) ?_ ?_)
    ·exact ⟨by dsimp only;omega,by dsimp only;rw [hsu,if_pos hln,if_pos ⟨.inl hln,by assumption⟩]; simp,by dsimp only;simp;omega,by dsimp only;omega⟩
    ·dsimp only;omega
   ·(refine bD (k + 1, _, _) (Le.renA [(0, 3)]) ?_ ?_)
    ·exact ⟨by dsimp only;omega,by dsimp only;rw [hsu,if_pos hln,if_neg (fun h => by rw [(by assumption : eO ts[pts[k]!.y.toNat]! = false)] at h;cases h.2)]; simp,by dsimp only;simp;omega,by dsimp only;omega⟩
    ·dsimp only;omega
  ·rw [Bool.not_eq_true] at hln
   have hln2 : ¬ bU pts[k]! = true := by rw [hln]; decide
   repeat' (first|(apply aF;first|(apply bT;rfl;rfl;rfl;rfl;rfl;(rw [aI]; omega);(rfl);omega;omega;(exact qT (by (assumption)));rfl;rfl)|((apply aL (t := _));(case hze|hsm|hl => rfl);(case hfl => (exact (rfl:_=some [_,_,_])));(case hM|hN => rfl))|(first|((with_reducible apply aA (k := 233));(case ha => rfl);(case h => (apply iW <;> (fail)));(case hp => (exact Pur.pf));(case hN => rfl))|((with_reducible apply aA (k := 234));(case ha => rfl);(case h => (apply nT <;> (fail)));(case hp => (rfl));(case hN => rfl))))|refine aE ?_|(refine aJ ?_ ?_ <;> intro hc hq <;> try (exfalso;omega))|(refine bS ?_ ?_ <;> intro hg hq <;> try (exfalso;omega))|refine bJ ?_|fail)
   all_goals try exact absurd (hln.symm.trans (by assumption : bU pts[k]! = true)) (by decide)
   ·(refine bD (k + 1, _, _) (Le.renA [(0, 3)]) ?_ ?_)
    ·exact ⟨by dsimp only;omega,by dsimp only;rw [hsu,if_neg hln2,if_pos ⟨.inr (by assumption),by assumption⟩]; simp,by dsimp only;simp;omega,by dsimp only;omega⟩
    ·dsimp only;omega
   ·(refine bD (k + 1, u, m) (Le.renA [(0, 0)]) ?_ ?_)
    ·exact ⟨by dsimp only;omega,by dsimp only;rw [hsu,if_neg hln2,if_neg (fun h => by rw [(by assumption : eO ts[pts[k]!.y.toNat]! = false)] at h;cases h.2)]; simp,hm,by dsimp only;omega⟩
    ·dsimp only;omega
   ·(refine bD (k + 1, u, m) (Le.renA [(0, 0)]) ?_ ?_)
    ·exact ⟨by dsimp only;omega,by dsimp only;rw [hsu,if_neg hln2,if_neg (fun h => h.1.elim hln2 (by assumption))]; simp,hm,by dsimp only;omega⟩
    ·dsimp only;omega
 ·repeat' (first | refine aE ?_ | (refine aJ ?_ ?_ <;> intro hc hq <;> try (exfalso; omega))|fail)
  refine aT (Le.frzD (d := 2) (i := 0) rfl rfl) ?_
  refine aD rfl ⟨?_,(by (exact a6 _ _))⟩
  rw [show pts.length = k by omega,← hu]
  simp only [aM,sl,hm]
theorem By (ts:List Int) (bd:List AL.Stmt) (pts:List Pnt) (A:List Nat) (w:WG ts pts) (t:WT ts pts) (hA:GoodG ts pts A):PC Tryz.prog 107 [aG ts bd pts] (fun r => r = .agg (flat cW A)):=by
 have hpl := w.pl
 have htl := w.tl
 have hbl := wG ts pts pts.length
 have hbo := Ew ts bd pts w
 have hbok : ∀ b,b ∈ kC ts pts pts.length → BOk ts.length pts.length b := fun b hb => oO w t hb
 have hlawT := fun A c b hb S => CF w t A c b hb S
 have hlawF := fun A c S => Iy w t A c S
 generalize hL : kC ts pts pts.length = L at hbl hbo hbok hlawT hlawF
 refine aC Tryz.func107 Tryz.ntmps107 ?_
 repeat' (first|refine aE ?_|fail)
 refine aH (σ := List Nat × Bool) [0,2,3] [0] (fun s => [(4,bv s.2)]) (fun s => [(1,some (flat cW s.1))]) (fun s => SRg ts pts s.1 ∧ (s.2 = false → Nx ts pts s.1)) (fun s => 2 * dS (s.1.map (fun x => 2 ^ pts.length - x)) + s.2.toNat) (List.replicate 6 0,true) ⟨SRg.rep ts pts,fun h => by cases h⟩ ?_
 rintro ⟨s,b⟩ ⟨hS,hC⟩
 dsimp only at hS hC
 try dsimp only
 have hsl := hS.l
 repeat' (first|(apply aF;((with_reducible apply aA (k := 187));(case ha => rfl);(case h => exact hbo);(case hp => (exact Pur.pf));(case hN => rfl)))|refine aE ?_|(refine aJ ?_ ?_ <;> intro hc hq <;> try (exfalso;omega))|fail)
 ·refine aH (σ := Nat × (List Nat × Bool)) [0, 2, 3, 10, 11] [0] (fun k => [(12, iv (k.1 : Int)), (4, bv k.2.2)]) (fun k => [(1, some (flat cW k.2.1))]) (fun k => k.1 ≤ L.length ∧ k.2 = (L.take k.1).foldl CU (s, false) ∧ SRg ts pts k.2.1) (fun k => L.length - k.1) (0, (s, false)) ⟨by omega, rfl, hS⟩ ?_
  rintro ⟨k,u,c⟩ ⟨hk,hf,hS2⟩
  dsimp only at hk hf hS2
  try dsimp only
  have hul := hS2.l
  have hsm : ∀ z : Nat,Sm u[z]! := fun z => ⟨Nat.lt_of_lt_of_le (hS2.b z) (Nat.pow_le_pow_right (by decide) (by omega))⟩
  by_cases hkn : k < L.length
  ·have hmb := aP _ k hkn
   have ok := hbok _ hmb
   have hft := c9 CU L (s,false) k hkn
   rw [← hf] at hft
   have hlaw := hlawT u c _ hmb hS2
   have hst : CU (u,c) L[k]! = if Ac u L[k]! ≠ u[L[k]!.var.toNat]! then (u.set L[k]!.var.toNat (Ac u L[k]!),true) else (u,c) := rfl
   have hs1 : Ac u L[k]! = if L[k]!.src < 0 then u[L[k]!.var.toNat]! ||| 2 ^ L[k]!.loan.toNat else u[L[k]!.var.toNat]! ||| u[L[k]!.src.toNat]! := rfl
   have hv := ok.v
   rcases ok.k with ⟨h1,h2,h3⟩ | ⟨h1,h2,h3,h4⟩
   ·rw [if_pos (by omega : L[k]!.src < 0)] at hs1
    rw [hs1] at hst
    repeat' (first|(apply aF;first|(apply a7;rfl;rfl;rfl;rfl;rfl;(case hl => (simp;done));exact (rfl:_=[_,_,_]))|(apply fU;rfl;rfl;infer_instance;omega;rfl;(case' kk => intro hsm)))|refine aE ?_|(refine aJ ?_ ?_ <;> intro hc hq <;> try (exfalso;omega))|fail)
    ·rw [if_pos (fun h => (by assumption : ¬ (_ : Int) = _) (by rw [h]))] at hst
     (refine bD (k + 1,(_,true)) (Le.renA [(0,0),(1,1)]) ?_ ?_)
     ·exact ⟨by dsimp only;omega,(hft.trans hst).symm,by have h9 := hlaw.1;rw [hst] at h9;exact h9⟩
     ·dsimp only;omega
    ·rw [if_neg (fun h => h (by have := (by assumption : ((_ : Nat) : Int) = ((_ : Nat) : Int)); omega))] at hst
     (refine bD (k + 1,(u,c)) (Le.renA [(0,0),(1,1)]) ?_ ?_)
     ·exact ⟨by dsimp only;omega,(hft.trans hst).symm,hS2⟩
     ·dsimp only;omega
   ·rw [if_neg (by omega : ¬ L[k]!.src < 0)] at hs1
    rw [hs1] at hst
    repeat' (first|(apply aF;(apply a7;rfl;rfl;rfl;rfl;rfl;(case hl => (simp;done));exact (rfl:_=[_,_,_])))|refine aE ?_|(refine aJ ?_ ?_ <;> intro hc hq <;> try (exfalso;omega))|fail)
    ·rw [if_pos (fun h => (by assumption : ¬ (_ : Int) = _) (by rw [h]))] at hst
     (refine bD (k + 1,(_,true)) (Le.renA [(0,0),(1,1)]) ?_ ?_)
     ·exact ⟨by dsimp only;omega,(hft.trans hst).symm,by have h9 := hlaw.1;rw [hst] at h9;exact h9⟩
     ·dsimp only;omega
    ·rw [if_neg (fun h => h (by have := (by assumption : ((_ : Nat) : Int) = ((_ : Nat) : Int)); omega))] at hst
     (refine bD (k + 1,(u,c)) (Le.renA [(0,0),(1,1)]) ?_ ?_)
     ·exact ⟨by dsimp only;omega,(hft.trans hst).symm,hS2⟩
     ·dsimp only;omega
  ·repeat' (first | refine aE ?_ | (refine aJ ?_ ?_ <;> intro hc hq <;> try (exfalso; omega))|fail)
   have hfu : L.foldl CU (s,false) = (u,c) := by rw [hf,List.take_of_length_le (by omega)]
   have hlaw := hlawF s false hS
   rw [hfu] at hlaw
   (refine bD (u,c) (Le.renA [(0,0),(1,1)]) ?_ ?_)
   ·refine ⟨hS2, fun hc0 => ?_⟩
    dsimp only at hc0
    rcases hlaw.2 with ⟨e1,e2⟩ | ⟨e1,_⟩
    ·cases e1;exact e2
    ·dsimp only at e1;rw [e1] at hc0;cases hc0
   ·dsimp only
    rcases hlaw.2 with ⟨e1,e2⟩ | ⟨e1,e2⟩
    ·cases e1;rw [(by assumption : b = true)]; simp
    ·dsimp only at e1 e2;rw [e1,(by assumption : b = true)]; simp;omega
 ·have e := E5 (Gk w t hS (hC (by assumption))) hA
  subst e
  refine aD (gL (z := 6) rfl rfl hsl (by decide)) ⟨rfl,(by (exact a6 _ _))⟩
theorem IC (A:List Nat) (i:Int) (hA:A.length = 6):PC Tryz.prog 109 [iv i,.iptr (flat cW A)] (fun r => r = .agg (flat cW A)):=by
 refine aC Tryz.func109 Tryz.ntmps109 ?_
 repeat' (first|refine aE ?_|fail)
 have e6 : A.take 6 = A := List.take_of_length_le (by omega)
 refine aD (gL (z := 6) rfl rfl (by rw [e6]; exact hA) (by decide)) ⟨by rw [e6]; rfl,(by (exact a6 _ _))⟩
theorem HF (A:List Nat) (ts:List Int) (bd:List AL.Stmt) (pts:List Pnt) (Aa Am Al Af Ap:List Nat) (n:Nat) (w:WG ts pts) (ga:m5 ts pts Aa) (gm:lM ts pts Am) (gl:n7 ts pts Al) (hA6:A.length = 6) (hlf:Af.length = pts.length * 6) (hrow:∀ i,i < pts.length → b7 Af i = A) (hbit:∀ q:Nat,∀ v,A[q]!.testBit v = true → v < pts.length) (gp:m6 ts pts Ap) (hn:n = pts.length) :
  PC Tryz.prog 105 [aG ts bd pts,.imm n (flat cN Al),.clos (.func 109) [] [.iptr (flat cW A)]] (fun r => r = sl dG (kH ts pts Aa Am Al Af Ap pts.length)) := by
 subst hn
 have hpl := w.pl
 have htl := w.tl
 have hla := ga.1
 have hlm := gm.1
 have hll := gl.1
 have hlp := gp.1
 refine aC Tryz.func105 Tryz.ntmps105 ?_
 repeat' (first|(apply aF;first|(apply eY (d := 10) (e := 3);rfl;rfl)|(first|(apply aA (k := 102);rfl;(apply qY <;> (assumption));exact Pur.pf;rfl)|(apply aA (k := 121);rfl;(apply sH <;> (assumption));exact Pur.pf;rfl)|(apply aA (k := 184);rfl;(apply s7 <;> (assumption));exact Pur.pf;rfl)))|refine aE ?_|fail)
 refine aH (σ := Nat × List Iss × Nat) [0,1,2,7,8,9,27,28] [] (fun k => [(29,iv (k.1 : Int)),(10,.own 0 0 k.2.2 3)]) (fun k => [(0,some (flat dG k.2.1))]) (fun k => k.1 ≤ pts.length ∧ k.2.1 = kH ts pts Aa Am Al Af Ap k.1 ∧ k.2.2 = k.2.1.length ∧ k.2.2 ≤ k.1 * 124) (fun k => pts.length - k.1) (0,[],0) ⟨by omega,rfl,rfl,Nat.le_refl _⟩ ?_
 rintro ⟨i,u,m⟩ ⟨hk,hu,hm,hmk⟩
 dsimp only at hk hu hm hmk ⊢
 by_cases hin : i < pts.length
 ·have hst := w.set i hin
  have hsU : Sm (wS ts pts[i]! [1,2,3]) := bO (by omega)
  have bl : ∀ {A : Nat} {n : Nat}, n ≤ 62 → (∀ v, A.testBit v = true → v < n) → A < 2 ^ n := fun _ hv => Nat.lt_pow_two_of_testBit _ fun v h => by
   cases hq : Nat.testBit _ v with
   | false => rfl
   | true => have := hv v hq;omega
  have hAa : Sm Aa[i]! := ⟨bl (n := 62) (by omega) fun v hv => by have := ((ga.2 i hin v).1 hv).1;omega⟩
  have hAm : Sm Am[i]! := ⟨bl (n := 62) (by omega) fun v hv => by have := qD w ((gm.2 i hin v).1 hv);dsimp only at this;omega⟩
  have hAl : Al[i]! < 2 ^ ts.length := bl (by omega) fun v hv => by obtain ⟨k,_,h⟩ := (gl.2 i hin v).1 hv;exact qE w h
  have hAl2 : Sm Al[i]! := ⟨Nat.lt_of_lt_of_le hAl (Nat.pow_le_pow_right (by decide) (by omega))⟩
  have hAp : Ap[i]! < 2 ^ pts.length := bl (by omega) fun v hv => (lD ((gp.2 i hin v).1 hv)).1
  have hAp2 : Sm Ap[i]! := ⟨Nat.lt_of_lt_of_le hAp (Nat.pow_le_pow_right (by decide) (by omega))⟩
  have hrl := dW hlf hin
  have hrs : ∀ z : Nat, Sm (b7 Af i)[z]! := by
   intro z
   rw [hrow i hin]
   exact ⟨bl (n := 62) (by omega) fun v hv => by have := hbit z v hv;omega⟩
  have hkp : mX ts pts[(i : Int).toNat]! Al[i]! (b7 Af (i : Int).toNat) < 2 ^ pts.length := by
   refine bl (by omega) fun v hv => ?_
   unfold mX at hv
   rw [eR] at hv
   rcases hv with hv | ⟨z,hz,hv⟩
   ·simp at hv
   ·obtain ⟨q, h1, h2, rfl⟩ := cL.1 hz
    rw [b6,Bool.and_eq_true] at h2
    have h3 := b9 hAl h2.1
    have h4 : q < 6 := by omega
    have h5 : (b7 Af i)[q]!.testBit v = true := hv
    rw [hrow i hin] at h5
    exact hbit q v h5
  have hkp2 : Sm (mX ts pts[(i : Int).toNat]! Al[i]! (b7 Af (i : Int).toNat)) := ⟨Nat.lt_of_lt_of_le hkp (Nat.pow_le_pow_right (by decide) (by omega))⟩
  have hlo : mX ts pts[(i : Int).toNat]! Al[i]! (b7 Af (i : Int).toNat) &&& Ap[i]! < 2 ^ pts.length := Nat.and_lt_two_pow _ hAp
  have hcf := pE w (Am := Am) (Al := Al) (Af := Af) (i := i) hAp
  have hcf2 : Sm (z8 ts pts Am Al Af Ap i) := ⟨Nat.lt_of_lt_of_le hcf (Nat.pow_le_pow_right (by decide) (by omega))⟩
  have hcf3 : Sm (C5 pts (mX ts pts[(i : Int).toNat]! Al[i]! (b7 Af (i : Int).toNat) &&& Ap[i]!) (fE ts pts[(i : Int).toNat]! (Am[i]!.testBit (aN pts[(i : Int).toNat]!).toNat)) 0) := hcf2
  have hb1 := bX (gX (wS ts pts[i]! [1,2,3]) Aa[i]!)
  have hb2 := bX (z8 ts pts Am Al Af Ap i)
  repeat' (first|(apply aF;(first|(apply aA (k := 120);rfl;(apply fJ <;> (infer_instance));(rfl);rfl)|(apply aA (k := 158);rfl;(apply fV <;> (assumption));exact Pur.pf;rfl)))|refine aE ?_|(refine aJ ?_ ?_ <;> intro hc hq <;> try (exfalso;omega))|refine bJ ?_|fail)
  have hb1b : ∀ j,j < (aY (gX (wS ts pts[i]! [1,2,3]) Aa[i]!)).length → 0 ≤ (aY (gX (wS ts pts[i]! [1,2,3]) Aa[i]!))[j]! := fun j h => (gB (inferInstance : Sm (gX (wS ts pts[i]! [1,2,3]) Aa[i]!)).pf h).1
  refine aH (σ := Nat × List Iss × Nat) [0,1,2,7,8,9,11,27,28,29,42,43] [] (fun j => [(44,iv (j.1 : Int)),(10,.own 0 0 j.2.2 3)]) (fun j => [(0,some (flat dG j.2.1))]) (fun j => j.1 ≤ (aY (gX (wS ts pts[i]! [1,2,3]) Aa[i]!)).length ∧ j.2.1 = u ++ nG i ((aY (gX (wS ts pts[i]! [1,2,3]) Aa[i]!)).take j.1) ∧ j.2.2 = j.2.1.length ∧ j.2.2 ≤ i * 124 + j.1) (fun j => (aY (gX (wS ts pts[i]! [1,2,3]) Aa[i]!)).length - j.1) (0,u,m) ⟨by omega,by simp [nG],hm,by omega⟩ ?_
  rintro ⟨j,u2,m2⟩ ⟨hj,hu2,hm2,hmk2⟩
  dsimp only at hj hu2 hm2 hmk2 ⊢
  by_cases hjn : j < (aY (gX (wS ts pts[i]! [1,2,3]) Aa[i]!)).length
  ·repeat' (first | (apply aF; (apply aL (t := _);rfl;rfl;rfl;(exact (rfl:_=some [_, _, _]));rfl;rfl)) | refine aE ?_ | (refine aJ ?_ ?_ <;> intro hc hq <;> try (exfalso; omega))|fail)
   (refine bD (j + 1,_,_) (Le.renA [(0,3)]) ?_ ?_)
   ·dsimp only
    refine ⟨by omega,?_,by simp;omega,by omega⟩
    rw [hu2]; unfold nG;rw [cO _ _ _ hjn,List.append_assoc]
   ·dsimp only;omega
  ·have hu3 : u2 = u ++ nG i (aY (gX (wS ts pts[i]! [1, 2, 3]) Aa[i]!)) := by rw [hu2, List.take_of_length_le (by omega)]
   have hcl := IC A (i : Int) hA6
   rw [show (fun r : AV => r = .agg (flat cW A)) = (fun r : AV => r = .agg (flat cW (b7 Af (i : Int).toNat))) from by rw [show b7 Af (i : Int).toNat = A from hrow i hin]] at hcl
   repeat' (first|(apply aF;first|(first|(apply aA (k := 76);rfl;(apply kF <;> (assumption));(rfl);rfl)|(apply aA (k := 185);rfl;(apply pQ <;> (first|assumption|omega));exact Pur.pf;rfl)|(apply aA (k := 186);rfl;(apply BX <;> (first|assumption|omega));exact Pur.pf;rfl))|(apply gC;rfl;rfl;infer_instance;rfl;(apply hcl);exact Pur.pf;rfl))|refine aE ?_|(refine aJ ?_ ?_ <;> intro hc hq <;> try (exfalso;omega))|refine bJ ?_|fail)
   generalize hL : aY (C5 pts (mX ts pts[(i : Int).toNat]! Al[i]! (b7 Af (i : Int).toNat) &&& Ap[i]!) (fE ts pts[(i : Int).toNat]! (Am[i]!.testBit (aN pts[(i : Int).toNat]!).toNat)) 0) = L2
   have hL2 : aY (z8 ts pts Am Al Af Ap i) = L2 := hL
   have hbd : ∀ j,j < L2.length → 0 ≤ L2[j]! ∧ L2[j]! < pts.length := fun j h => by rw [← hL2] at h ⊢; exact gB hcf h
   rw [hL2] at hb2
   refine aH (σ := Nat × List Iss × Nat) [0,1,2,7,8,9,11,27,28,29,77,78] [] (fun l => [(79,iv (l.1 : Int)),(10,.own 0 0 l.2.2 3)]) (fun l => [(0,some (flat dG l.2.1))]) (fun l => l.1 ≤ L2.length ∧ l.2.1 = u2 ++ nE pts i (L2.take l.1) ∧ l.2.2 = l.2.1.length ∧ l.2.2 ≤ i * 124 + 62 + l.1) (fun l => L2.length - l.1) (0,u2,m2) ⟨by omega,by simp [nE],hm2,Nat.le_trans hmk2 (by omega)⟩ ?_
   rintro ⟨l,u4,m4⟩ ⟨hl,hu4,hm4,hmk4⟩
   dsimp only at hl hu4 hm4 hmk4 ⊢
   by_cases hln : l < L2.length
   ·have hbl := hbd l hln
    repeat' (first|(apply aF;(apply aL (t := _);rfl;rfl;rfl;(exact (rfl:_=some [_,_,_]));rfl;rfl))|refine aE ?_|(refine aJ ?_ ?_ <;> intro hc hq <;> try (exfalso;omega))|fail)
    ·(refine bD (l + 1, _, _) (Le.renA [(0, 3)]) ?_ ?_)
     ·dsimp only
      refine ⟨by omega,?_,by simp;omega,by omega⟩
      rw [hu4]; unfold nE;rw [cO _ _ _ hln,List.append_assoc,if_pos hq]
     ·dsimp only;omega
    ·(refine bD (l + 1, _, _) (Le.renA [(0, 3)]) ?_ ?_)
     ·dsimp only
      refine ⟨by omega,?_,by simp;omega,by omega⟩
      rw [hu4]; unfold nE;rw [cO _ _ _ hln,List.append_assoc,if_neg hq]
     ·dsimp only;omega
   ·repeat' (first | refine aE ?_ | (refine aJ ?_ ?_ <;> intro hc hq <;> try (exfalso; omega))|fail)
    (refine bD (i + 1,u4,m4) (Le.renA [(0,0)]) ?_ ?_)
    ·dsimp only
     refine ⟨by omega,?_,hm4,by omega⟩
     rw [iH,hu4,List.take_of_length_le (by omega),hu3,← hL2,hu,List.append_assoc]; rfl
    ·dsimp only;omega
 ·repeat' (first | refine aE ?_ | (refine aJ ?_ ?_ <;> intro hc hq <;> try (exfalso; omega))|fail)
  (refine aT (Le.frzD (d := 6) (i := 0) rfl rfl) ?_; refine aD rfl ?_)
  refine ⟨?_,(by (exact a6 _ _))⟩
  simp only [aM,sl]
  rw [hm,hu,show i = pts.length by omega]
theorem Eg (p:Prg) (f:Flows p.types (aB p)) (A:List Nat) (hA:GoodG p.types (aB p) A) (hv:bI p = true) (hl:p.types.length ≤ 1048576) (hs:aU p.body ≤ 1048576):PC Tryz.prog 41 [bY p] (fun r => r = sl dG (KC p f A)):=by
 have w := WG.of_valid hv
 have t := WT.of_valid hv
 have hg := iI p hl hs
 rw [if_pos hv] at hg
 have hr := By p.types p.body (aB p) A w t hA
 have hA6 := hA.1
 have hlv := p8 p.types p.body (aB p) f.An f.Al w f.gn f.gl
 have hbit : ∀ q : Nat, ∀ v, A[q]!.testBit v = true → v < (aB p).length := fun q v h => by
  by_cases hq : q < 6
  ·exact (Kk w t ((hA.2 q hq v).1 h)).2
  ·rw [getElem!_neg _ q (by omega)] at h;simp at h
 have hck := HF A p.types p.body (aB p) f.Aa f.Am f.Al (oQ (aB p).length A) f.Ap (aB p).length w f.ga f.gm f.gl hA6 (nU A hA6 _) (tC A hA6 _) hbit f.gp rfl
 refine aC Tryz.func41 Tryz.ntmps41 ?_
 repeat' (first|(apply aF;first|((apply fF 5);(case hx|hH|hc|hN => rfl))|(apply aA (k := 72);rfl;exact hg;exact Pur.pf;rfl)|(apply aA (k := 107);rfl;exact hr;exact Pur.pf;rfl)|(apply aA (k := 108);rfl;exact hlv;exact Pur.pf;rfl)|(apply aA (k := 105);rfl;exact hck;exact Pur.pf;rfl))|refine aE ?_|fail)
 exact aD rfl ⟨rfl,(by (exact a6 _ _))⟩
theorem EZ (p:Prg) (hs:aU p.body ≤ 1048576) (w:WG p.types (aB p)):PC Tryz.prog 226 [bY p] (fun r => r = sl xX (kC p.types (aB p) (aB p).length)):=by
 have hpl := w.pl
 have htl := w.tl
 have hp := dB p hs
 refine aC Tryz.func226 Tryz.ntmps226 ?_
 repeat' (first|(apply aF;(apply aA (k := 132);rfl;exact hp;exact Pur.pf;rfl))|refine aE ?_|fail)
 refine aH (σ := Nat × List Bnd × Nat) [1,4] [0] (fun s => [(5,iv (s.1 : Int)),(3,.own 1 0 s.2.2 3)]) (fun s => [(1,some (flat xX s.2.1))]) (fun s => s.1 ≤ (aB p).length ∧ s.2.1 = kC p.types (aB p) s.1 ∧ s.2.2 = s.2.1.length ∧ s.2.2 ≤ 2 * s.1) (fun s => (aB p).length - s.1) (0,[],0) ⟨by omega,rfl,rfl,Nat.le_refl _⟩ ?_
 rintro ⟨k,u,m⟩ ⟨hk,hu,hm,hmk⟩
 dsimp only at hk hu hm hmk
 try dsimp only
 by_cases hkn : k < (aB p).length
 ·have hy := w.y k hkn
  have hsu := tP p.types (aB p) k
  rw [← hu] at hsu
  unfold Ke at hsu
  by_cases h4 : (aB p)[k]!.op = 4 ∨ (aB p)[k]!.op = 5
  ·have hln : bU (aB p)[k]! = true := by unfold bU; rcases h4 with h | h <;> rw [h] <;> rfl
   repeat' (first|(apply aF;first|(apply bT;rfl;rfl;rfl;rfl;rfl;(first|(rw [aI]; omega)|(rw [aI]; simp only [fT] <;> omega));(rfl);omega;omega;(exact qT (by (first|assumption|(simp only [fT] <;> omega))));rfl;rfl)|(apply aL (t := _);rfl;rfl;rfl;(exact (rfl:_=some [_,_,_]));rfl;rfl)|(apply aA (k := 260);rfl;(apply r7);(rfl);rfl))|refine aE ?_|(refine aJ ?_ ?_ <;> intro hc hq <;> try (exfalso;omega))|(refine bS ?_ ?_ <;> intro hg hq <;> try (exfalso;omega))|fail)
   ·(refine bD (k + 1, _, _) (Le.renA [(0, 0), (1, 6)]) ?_ ?_)
    ·exact ⟨by dsimp only;omega,by dsimp only;rw [hsu,if_pos hln,if_pos ⟨.inl hln,by assumption⟩]; simp,by dsimp only;simp;omega,by dsimp only;omega⟩
    ·dsimp only;omega
   ·(refine bD (k + 1, _, _) (Le.renA [(0, 0), (1, 4)]) ?_ ?_)
    ·exact ⟨by dsimp only;omega,by dsimp only;rw [hsu,if_pos hln,if_neg (fun h => by rw [(by assumption : eO p.types[(aB p)[k]!.y.toNat]! = false)] at h;cases h.2)]; simp,by dsimp only;simp;omega,by dsimp only;omega⟩
    ·dsimp only;omega
   ·(refine bD (k + 1, _, _) (Le.renA [(0, 0), (1, 6)]) ?_ ?_)
    ·exact ⟨by dsimp only;omega,by dsimp only;rw [hsu,if_pos hln,if_pos ⟨.inl hln,by assumption⟩]; simp,by dsimp only;simp;omega,by dsimp only;omega⟩
    ·dsimp only;omega
   ·(refine bD (k + 1, _, _) (Le.renA [(0, 0), (1, 4)]) ?_ ?_)
    ·exact ⟨by dsimp only;omega,by dsimp only;rw [hsu,if_pos hln,if_neg (fun h => by rw [(by assumption : eO p.types[(aB p)[k]!.y.toNat]! = false)] at h;cases h.2)]; simp,by dsimp only;simp;omega,by dsimp only;omega⟩
    ·dsimp only;omega
  ·have hln2 : ¬ bU (aB p)[k]! = true := fun h => h4 (iC h)
   repeat' (first|(apply aF;first|(apply bT;rfl;rfl;rfl;rfl;rfl;(rw [aI]; omega);(rfl);omega;omega;(exact qT (by (assumption)));rfl;rfl)|(apply aL (t := _);rfl;rfl;rfl;(exact (rfl:_=some [_,_,_]));rfl;rfl)|(apply aA (k := 260);rfl;(apply r7);(rfl);rfl))|refine aE ?_|(refine aJ ?_ ?_ <;> intro hc hq <;> try (exfalso;omega))|(refine bS ?_ ?_ <;> intro hg hq <;> try (exfalso;omega))|fail)
   ·(refine bD (k + 1, _, _) (Le.renA [(0, 0), (1, 4)]) ?_ ?_)
    ·exact ⟨by dsimp only;omega,by dsimp only;rw [hsu,if_neg hln2,if_pos ⟨.inr (by assumption),by assumption⟩]; simp,by dsimp only;simp;omega,by dsimp only;omega⟩
    ·dsimp only;omega
   ·(refine bD (k + 1, u, m) (Le.renA [(0, 0), (1, 1)]) ?_ ?_)
    ·exact ⟨by dsimp only;omega,by dsimp only;rw [hsu,if_neg hln2,if_neg (fun h => by rw [(by assumption : eO p.types[(aB p)[k]!.y.toNat]! = false)] at h;cases h.2)]; simp,hm,by dsimp only;omega⟩
    ·dsimp only;omega
   ·(refine bD (k + 1, u, m) (Le.renA [(0, 0), (1, 1)]) ?_ ?_)
    ·exact ⟨by dsimp only;omega,by dsimp only;rw [hsu,if_neg hln2,if_neg (fun h => h.1.elim hln2 (by assumption))]; simp,hm,by dsimp only;omega⟩
    ·dsimp only;omega
 ·repeat' (first | refine aE ?_ | (refine aJ ?_ ?_ <;> intro hc hq <;> try (exfalso; omega))|fail)
  refine aT (Le.frzD (d := 2) (i := 1) rfl rfl) ?_
  refine aD rfl ⟨?_,(by (exact a6 _ _))⟩
  rw [show (aB p).length = k by omega,← hu]
  simp only [aM,sl,hm]
theorem BO {R:List (List Bool)}{k j m m2:Nat}{x0 x1:Operand}(ha0:ev (lk tsl) x0 = some (.own (k + aQ) 0 m 1)) (ha1:ev (lk tsl) x1 = some (.own (j + aQ) 0 m2 1))
  (hF : FamR R R hsl hsl) (hk : k < R.length) (hj : j < R.length) (hkj : k ≠ j) (hm : m = R[k]!.length) (hm2 : m2 = R[j]!.length) (hab : R[j]!.length ≤ R[k]!.length) (hl : R[k]!.length ≤ 1048576) (hM : Nat.ble (nidl + 0) aQ = true) (hN : Nat.blt d N = true)
  {md' : Md} [hmd : MdA md (fR [x0,x1] ++ [.inr (k + aQ),.inr (j + aQ)]) [.inr (k + aQ),.inr (j + aQ),.inl d] md']
  (kk : RW Tryz.prog N all Q md' rest ⟨(d,.tup []) :: tsl,(j + aQ,some (flat cB R[j]!)) :: (k + aQ,some (flat cB (fP R[k]! R[j]!))) :: hsl,nidl + 0,z0⟩) : RW Tryz.prog N all Q md (⟨some d,.call ⟨.value (.func 225),#[x0,x1],tys⟩,ty,pos,af,none⟩ :: rest) ⟨tsl,hsl,nidl,z0⟩ :=
 wC (a := R[k]!) (b := R[j]!) (i0 := k + aQ) (i1 := j + aQ) ha0 ha1 (hF.get hk) (hF.get hj) (Mq hkj) (A3 R[k]! R[j]! m m2 hm hm2 hab hl) hM hN (md' := md') (hmd := hmd) kk
theorem Ca {P:Program}{N:Nat}{Q:Exit → AS → Prop}{all:Array Oper}{rest:List Oper}{ts:List (Nat × AV)}{hs:List (Nat × Option (List AV))}{n:Nat}{z0:Lo}{md:Md}{ty:TypeId}{pos:String}{af:Array Edge}{t:TypeId}{x y:Operand}{k v:Nat}{b:Bool}{R:List (List Bool)}[hz:SzT P t 1] (hx:ev (lk ts) x = some (.optr (k + aQ) (0 + v * 1))) (hy:ev (lk ts) y = some (.v (.bool b)))
  (hF : FamR R R hs hs) (hk : k < R.length) (hv : v < R[k]!.length) {md' : Md} [hmd : MdA md (rO x ++ (rO y ++ [.inr (k + aQ)])) [.inr (k + aQ)] md']
  (kk : RW P N all Q md' rest ⟨ts,(k + aQ,some (flat cB (R[k]!.set v b))) :: hs,n,z0⟩) : RW P N all Q md (⟨none,.store t x y,ty,pos,af,none⟩ :: rest) ⟨ts,hs,n,z0⟩ := by
 refine a7 (md' := md') (hmd := hmd) (cs := flat cB R[k]!) (new := [.v (.bool b)]) (cs' := flat cB (R[k]!.set v b)) hx hy rfl rfl (hF.get hk) ?_ ?_ kk
 ·rw [aI cB (e := 1),List.length_singleton]; omega
 ·exact fD hv rfl
theorem BF (p:Prg) (A:List Nat) (hs:aU p.body ≤ 1048576) (w:WG p.types (aB p)) (t:WT p.types (aB p)) (hA:GoodG p.types (aB p) A):PC Tryz.prog 172 [bY p] (fun r => r = sl fQ (y9 p.types.length (aB p).length A)):=by
 have hpl := w.pl
 have hp0 := w.p0
 have htl := w.tl
 have hpt := dB p hs
 have hbo := EZ p hs w
 have hbl := wG p.types (aB p) (aB p).length
 have hbok : ∀ b,b ∈ kC p.types (aB p) (aB p).length → BOk p.types.length (aB p).length b := fun b hb => oO w t hb
 have hre := BE w t _ (SRr.rep p.types (aB p)) hA
 have hs1 : ∀ k R,SRr p.types (aB p) R → SRr p.types (aB p) (((kC p.types (aB p) (aB p).length).take k).foldl tK R) := fun k R S => (pD w t _ (fun b hb => List.mem_of_mem_take hb) R S).1
 have hs2 := fun k => (pW w t _ (SRr.rep p.types (aB p)) k).1
 generalize hL : kC p.types (aB p) (aB p).length = L at hbo hbl hbok hre hs1 hs2
 refine aC Tryz.func172 Tryz.ntmps172 ?_
 repeat' (first|(apply aF;first|(apply aA (k := 132);rfl;exact hpt;exact Pur.pf;rfl)|(apply aA (k := 226);rfl;exact hbo;exact Pur.pf;rfl))|refine aE ?_|fail)
 refine dA (σ := Nat) (fun k => List.replicate k (List.replicate (aB p).length false)) [1,3,4] [0] (fun k => [(6,iv (k : Int)),(5,.own 1 0 k 1)]) (fun k => [(1,some (flat (yJ 0 (aB p).length) (List.range k)))]) (fun k => k ≤ p.types.length) (fun k => p.types.length - k) (0) (Nat.zero_le _) ?_
 intro k hk
 try dsimp only
 by_cases hkn : k < p.types.length
 ·repeat' (first | (apply aF; (apply bT;rfl;rfl;rfl;rfl;rfl;(case hl => (simp [aI]; done));(rfl);omega;omega;(rfl);rfl;rfl)) | refine aE ?_ | (refine aJ ?_ ?_ <;> intro hc hq <;> try (exfalso; omega))|fail)
  (apply bD (k + 1);focus (refine Le.renF1 [(0,0),(1,4)] 2 (R := ?qA1) (r := ?qB1) (hF := ?qF1) (hz := ?qz1) (hm := ?qm1) (hn := ?qn1) (hlb := ?qlb1) (hb := ?qb1) (hr := ?qr1) (hR := ?qR1) (h1 := ?q11) (h2 := ?q21);(case qF1 => (repeat' (first|exact FamR.here|(apply FamR.cons;focus rfl))));(case qz1 => (rfl));(case qm1 => rfl);(case qn1 => decide);(case qlb1 => decide);(case qb1 => decide);(case qr1 => rfl);(case qR1 => (exact List.replicate_succ'));all_goals (repeat' (first|exact trivial|refine And.intro ⟨_,rfl,?_⟩ ?_|refine And.intro ⟨_,_,rfl,rfl,?_⟩ ?_|exact RnL.purI inferInstance|exact RnV.purI inferInstance|exact RnV.own rfl|exact RnV.optr rfl|exact xB (by decide) (by simp)))))
  ·show k + 1 ≤ p.types.length;omega
  ·show p.types.length - (k + 1) < p.types.length - k;omega
 ·have hkN : k = p.types.length := by omega
  subst hkN
  repeat' (first|(apply aF;(with_reducible apply aV (d := 7)))|refine aE ?_|(refine aJ ?_ ?_ <;> intro hc hq <;> try (exfalso;omega))|fail)
  refine bR (cY ?_ (Le.frzD (d := 5) (i := 1) rfl rfl))
  repeat' (first|refine aE ?_|fail)
  refine dA (σ := Nat × List (List Bool)) (fun s => s.2) [1,4,5] [0] (fun s => [(7,iv (s.1 : Int))]) (fun s => []) (fun s => s.1 ≤ p.types.length + 1 ∧ s.2 = HJ L (List.replicate p.types.length (List.replicate (aB p).length false)) s.1) (fun s => p.types.length + 1 - s.1) (0,List.replicate p.types.length (List.replicate (aB p).length false)) ⟨Nat.zero_le _,rfl⟩ ?_
  rintro ⟨r,R⟩ ⟨hr,hR⟩
  dsimp only at hr hR
  have hSR : SRr p.types (aB p) R := by rw [hR]; exact hs2 r
  have hRl := hSR.l
  try dsimp only
  by_cases hrn : r ≤ p.types.length
  ·repeat' (first | refine aE ?_ | (refine aJ ?_ ?_ <;> intro hc hq <;> try (exfalso; omega))|fail)
   refine dA (σ := Nat × List (List Bool)) (fun s => s.2) [1,4,5,7] [0] (fun s => [(8,iv (s.1 : Int))]) (fun s => []) (fun s => s.1 ≤ L.length ∧ s.2 = (L.take s.1).foldl tK R) (fun s => L.length - s.1) (0,R) ⟨Nat.zero_le _,rfl⟩ ?_
   rintro ⟨i,R2⟩ ⟨hi,hR2⟩
   dsimp only at hi hR2
   have hS2 : SRr p.types (aB p) R2 := by rw [hR2]; exact hs1 i R hSR
   have hl2 := hS2.l
   try dsimp only
   by_cases hin : i < L.length
   ·have ok := hbok _ (aP _ i hin)
    have hft := c9 tK L R i hin
    rw [← hR2] at hft
    have hv := ok.v
    have hrv := hS2.r L[i]!.var.toNat (by omega)
    have hst : tK R2 L[i]! = if 0 ≤ L[i]!.loan then R2.set L[i]!.var.toNat (R2[L[i]!.var.toNat]!.set L[i]!.loan.toNat true) else R2.set L[i]!.var.toNat (fP R2[L[i]!.var.toNat]! R2[L[i]!.src.toNat]!) := rfl
    rcases ok.k with ⟨h1,h2,h3⟩ | ⟨h1,h2,h3,h4⟩
    ·rw [if_pos h1] at hst
     repeat' (first|(apply aF;first|(apply a7;rfl;rfl;rfl;rfl;rfl;(case hl => (simp;done));exact (rfl:_=[_,_,_]))|(apply Ca (R := R2);rfl;rfl;(case hF => (repeat' (first|exact FamR.here|(apply FamR.cons;focus rfl))));(simp only [Nat.zero_add]; omega);(simp only [Nat.zero_add]; omega))|(with_reducible apply aV (d := 39))|(apply fK;rfl;rfl;(assumption);rfl;infer_instance;infer_instance;rfl))|refine aE ?_|(refine aJ ?_ ?_ <;> intro hc hq <;> try (exfalso;omega))|refine bJ ?_|fail)
     refine bR ?_
     apply cY
     case k =>
      apply Le.fset (R := R2) (hk := by omega)
      (repeat' (first|exact FamR.here|(apply FamR.cons;focus rfl)))
     repeat' (first|refine aE ?_|fail)
     (apply bD (i + 1,_);focus (refine Le.renF0 [(0,0)] (R := ?qA2) (hF := ?qF2) (hz := ?qz2) (hm := ?qm2) (hn := ?qn2) (h1 := ?q12) (h2 := ?q22);(case qF2 => (repeat' (first|exact FamR.here|(apply FamR.cons;focus rfl))));(case qz2 => (simp only [List.length_set]));(case qm2 => rfl);(case qn2 => decide);all_goals (repeat' (first|exact trivial|refine And.intro ⟨_,rfl,?_⟩ ?_|refine And.intro ⟨_,_,rfl,rfl,?_⟩ ?_|exact RnL.purI inferInstance|exact RnV.purI inferInstance|exact RnV.optr rfl|exact RnV.imm (cJ (by (simp only [List.length_replicate,List.length_set,List.length_append,List.length_singleton] at * <;> omega)))))))
     ·refine ⟨by show i + 1 ≤ L.length; omega, ?_⟩
      show R2.set _ _ = _
      rw [hft,hst]; simp only [Nat.zero_add]
     ·show L.length - (i + 1) < L.length - i;omega
    ·rw [if_neg (by omega)] at hst
     have hrs := hS2.r L[i]!.src.toNat (by omega)
     repeat' (first|(apply aF;first|(apply a7;rfl;rfl;rfl;rfl;rfl;(case hl => (simp;done));exact (rfl:_=[_,_,_]))|(apply BO (R := R2);rfl;rfl;(case hF => (repeat' (first|exact FamR.here|(apply FamR.cons;focus rfl))));(simp only [Nat.zero_add]; omega);(simp only [Nat.zero_add]; omega);(simp only [Nat.zero_add]; omega);(simp only [Nat.zero_add]; omega);(simp only [Nat.zero_add]; omega);(simp only [Nat.zero_add]; omega);(simp only [Nat.zero_add]; omega);rfl;rfl)|(with_reducible apply aV (d := 39))|(apply fK;rfl;rfl;(first|assumption|omega);rfl;infer_instance;infer_instance;rfl))|refine aE ?_|(refine aJ ?_ ?_ <;> intro hc hq <;> try (exfalso;omega))|refine bJ ?_|fail)
     refine bR ?_
     apply cY
     case k =>
      apply Le.fset2 (R := R2) (hk := by omega) (hj := by omega) (hkj := by omega)
      (repeat' (first|exact FamR.here|(apply FamR.cons;focus rfl)))
     repeat' (first|refine aE ?_|fail)
     (apply bD (i + 1,_);focus (refine Le.renF0 [(0,0)] (R := ?qA3) (hF := ?qF3) (hz := ?qz3) (hm := ?qm3) (hn := ?qn3) (h1 := ?q13) (h2 := ?q23);(case qF3 => (repeat' (first|exact FamR.here|(apply FamR.cons;focus rfl))));(case qz3 => (simp only [List.length_set]));(case qm3 => rfl);(case qn3 => decide);all_goals (repeat' (first|exact trivial|refine And.intro ⟨_,rfl,?_⟩ ?_|refine And.intro ⟨_,_,rfl,rfl,?_⟩ ?_|exact RnL.purI inferInstance|exact RnV.purI inferInstance|exact RnV.optr rfl|exact RnV.imm (cJ (by (simp only [List.length_replicate,List.length_set,List.length_append,List.length_singleton] at * <;> omega)))))))
     ·refine ⟨by show i + 1 ≤ L.length; omega, ?_⟩
      show R2.set _ _ = _
      rw [hft,hst]; simp only [Nat.zero_add]
     ·show L.length - (i + 1) < L.length - i;omega
   ·repeat' (first | refine aE ?_ | (refine aJ ?_ ?_ <;> intro hc hq <;> try (exfalso; omega))|fail)
    (apply bD (r + 1,R2);focus (refine Le.renF0 [(0,0)] (R := ?qA4) (hF := ?qF4) (hz := ?qz4) (hm := ?qm4) (hn := ?qn4) (h1 := ?q14) (h2 := ?q24);(case qF4 => (repeat' (first|exact FamR.here|(apply FamR.cons;focus rfl))));(case qz4 => (rfl));(case qm4 => rfl);(case qn4 => decide);all_goals (repeat' (first|exact trivial|refine And.intro ⟨_,rfl,?_⟩ ?_|refine And.intro ⟨_,_,rfl,rfl,?_⟩ ?_|exact RnL.purI inferInstance|exact RnV.purI inferInstance|exact RnV.optr rfl|exact RnV.imm (cJ (by (simp only [List.length_replicate,List.length_set,List.length_append,List.length_singleton] at * <;> omega)))))))
    ·refine ⟨by show r + 1 ≤ _; omega, ?_⟩
     show R2 = _
     rw [hR2,List.take_of_length_le (by omega),hR]; rfl
    ·show p.types.length + 1 - (r + 1) < p.types.length + 1 - r;omega
  ·repeat' (first | refine aE ?_ | (refine aJ ?_ ?_ <;> intro hc hq <;> try (exfalso; omega))|fail)
   have hrt : r = p.types.length + 1 := by omega
   subst hrt
   refine aT (Le.frzAll (d := 2) (D := (List.range R.length).map fun k => 0 + k + aQ) rfl (.imm (LdL.rows (b := 0) (R := R) (by (repeat' (first|exact FamR.here|(apply FamR.cons;focus rfl)))) (fun k hk => List.mem_map.2 ⟨k,by rw [List.mem_range]; omega,rfl⟩) (by omega) (fun k hk => by rw [Nat.zero_add]; exact hSR.r k hk)))) ?_
   refine aD rfl ⟨?_,(by (exact a6 _ _))⟩
   simp only [aM]
   rw [List.drop_zero,List.take_of_length_le (by omega),hR,hre]
   simp [sl,y9]
theorem DU (p:Prg) (f:Flows p.types (aB p)) (A:List Nat) (hA:GoodG p.types (aB p) A) (hv:bI p = true) (hl:p.types.length ≤ 1048576) (hs:aU p.body ≤ 1048576):PC Tryz.prog 97 [bY p] (fun r => r = sl dG (KC p f A)):=by
 have w := WG.of_valid hv
 have t := WT.of_valid hv
 have hr := Rch.of p
 have hval := fW p hl (by omega)
 rw [hv] at hval
 have hpl := w.pl
 have hp0 := w.p0
 have htl := w.tl
 have hpt := dB p hs
 have hfa := eT p true f.Aa hs w hr (by unfold jP;exact f.ga)
 have hfm := eT p false f.Am hs w hr (by unfold jP;exact f.gm)
 have hfl := sO p f.Af f.Ap hs w f.gf f.gp
 have hlv := A6 p f.Al hs w f.gl
 have hrg := BF p A hs w t hA
 have hA6 := hA.1
 have hra := cK p.types.length (aB p).length f.Aa
 have hrm := cK p.types.length (aB p).length f.Am
 have hrl := cK p.types.length (aB p).length f.Al
 have hfll : ((List.range (aB p).length).map (dX p.types.length (aB p).length f.Af f.Ap)).length = (aB p).length := by simp
 refine aC Tryz.func97 Tryz.ntmps97 ?_
 repeat' (first|(apply aF;first|(apply aA (k := 61);rfl;exact hval;exact Pur.pf;rfl)|(apply aA (k := 132);rfl;exact hpt;exact Pur.pf;rfl)|(apply aA (k := 64) (d := 23);rfl;exact hfa;exact Pur.pf;rfl)|(apply aA (k := 64) (d := 25);rfl;exact hfm;exact Pur.pf;rfl)|(apply aA (k := 170);rfl;exact hlv;exact Pur.pf;rfl)|(apply aA (k := 171);rfl;exact hfl;exact Pur.pf;rfl)|(apply aA (k := 172);rfl;exact hrg;exact Pur.pf;rfl))|refine aE ?_|fail)
 refine aH (σ := Nat × List Iss × Nat) [1,4,5,6,7,8,9] [0] (fun s => [(10,iv (s.1 : Int)),(3,.own 1 0 s.2.2 3)]) (fun s => [(1,some (flat dG s.2.1))]) (fun s => s.1 ≤ (aB p).length ∧ s.2.1 = kH p.types (aB p) f.Aa f.Am f.Al (oQ (aB p).length A) f.Ap s.1 ∧ s.2.2 = s.2.1.length ∧ s.2.2 ≤ 67 * s.1) (fun s => (aB p).length - s.1) (0,[],0) ⟨Nat.zero_le _,rfl,rfl,Nat.le_refl _⟩ ?_
 rintro ⟨i,L,m⟩ ⟨hi,hL,hm,hmb⟩
 dsimp only at hi hL hm hmb
 try dsimp only
 by_cases hin : i < (aB p).length
 ·repeat' (first | refine aE ?_ | (refine aJ ?_ ?_ <;> intro hc hq <;> try (exfalso; omega))|fail)
  refine aH (σ := Nat × List Iss × Nat) [1,4,5,6,7,8,9,10] [0] (fun s => [(11,iv (s.1 : Int)),(3,.own 1 0 s.2.2 3)]) (fun s => [(1,some (flat dG s.2.1))]) (fun s => s.1 ≤ p.types.length ∧ s.2.1 = L ++ ID p.types (aB p) f.Aa i s.1 ∧ s.2.2 = s.2.1.length ∧ s.2.2 ≤ 67 * i + s.1) (fun s => p.types.length - s.1) (0,L,m) ⟨Nat.zero_le _,(List.append_nil L).symm,hm,hmb⟩ ?_
  rintro ⟨v,L2,m2⟩ ⟨hv,hL2,hm2,hmb2⟩
  dsimp only at hv hL2 hm2 hmb2
  try dsimp only
  by_cases hvn : v < p.types.length
  ·have hga := gH p.types.length (aB p).length f.Aa i v hin hvn
   have hgl : (bE p.types.length (aB p).length f.Aa)[i]!.length = p.types.length := by rw [cD _ _ _ _ hin]; simp
   repeat' (first|(apply aF;(apply aA (k := 173);rfl;(apply jI <;> (omega));exact Pur.pf;rfl))|refine aE ?_|(refine aJ ?_ ?_ <;> intro hc hq <;> try (exfalso;omega))|(refine bS ?_ ?_ <;> intro hg hq <;> try (exfalso;omega))|refine bJ ?_|fail)
   ·(refine bD (v + 1, L2 ++ [⟨i, 1, v⟩], m2 + 1) (Le.renA [(0, 0), (1, 3)]) ?_ ?_)
    ·have hu : qA p.types (aB p) f.Aa i v = true := by
      unfold qA;rw [← hga,decide_eq_false (by assumption),(by assumption : (bE p.types.length (aB p).length f.Aa)[i]![v]! = false)]; rfl
     exact ⟨(by show v + 1 ≤ p.types.length;omega),(by show L2 ++ [⟨i,1,v⟩] = _; rw [hL2,List.append_assoc,← yA hu]),(by show m2 + 1 = (L2 ++ [_]).length;rw [List.length_append,List.length_singleton,hm2]),(by show m2 + 1 ≤ 67 * i + (v + 1);omega)⟩
    ·show p.types.length - (v + 1) < p.types.length - v;omega
   ·(refine bD (v + 1, L2, m2) (Le.renA [(0, 0), (1, 1)]) ?_ ?_)
    ·have hu : qA p.types (aB p) f.Aa i v = false := by
      unfold qA;rw [← hga,(by assumption : (bE p.types.length (aB p).length f.Aa)[i]![v]! = true)]; simp
     exact ⟨(by show v + 1 ≤ p.types.length;omega),(by show L2 = _; rw [j4 hu]; exact hL2),hm2,(by show m2 ≤ 67 * i + (v + 1);omega)⟩
    ·show p.types.length - (v + 1) < p.types.length - v;omega
   ·(refine bD (v + 1, L2, m2) (Le.renA [(0, 0), (1, 1)]) ?_ ?_)
    ·have hu : qA p.types (aB p) f.Aa i v = false := by
      unfold qA;rw [decide_eq_true (by assumption)]; rfl
     exact ⟨(by show v + 1 ≤ p.types.length;omega),(by show L2 = _; rw [j4 hu]; exact hL2),hm2,(by show m2 ≤ 67 * i + (v + 1);omega)⟩
    ·show p.types.length - (v + 1) < p.types.length - v;omega
  ·have hvN : v = p.types.length := by omega
   have hset := w.set i hin
   have hy := w.y i hin
   have hfi : ((List.range (aB p).length).map (dX p.types.length (aB p).length f.Af f.Ap))[i]! = dX p.types.length (aB p).length f.Af f.Ap i := aX _ _ _ hin
   have hgm : (bE p.types.length (aB p).length f.Am)[i]!.length = p.types.length := by rw [cD _ _ _ _ hin]; simp
   have hgl : (bE p.types.length (aB p).length f.Al)[i]!.length = p.types.length := by rw [cD _ _ _ _ hin]; simp
   have hf2 : (dX p.types.length (aB p).length f.Af f.Ap i).2.length = (aB p).length := by simp [dX]
   have hf4 : (((List.range (aB p).length).map (dX p.types.length (aB p).length f.Af f.Ap))[i]!.2).length = (aB p).length := by rw [hfi]; exact hf2
   have hacc := kE p.types (aB p)[i]! (bE p.types.length (aB p).length f.Am)[i]! htl hgm hset.1 hy
   have hlv := rY p.types (aB p)[i]! (y9 p.types.length (aB p).length A) ((List.range (aB p).length).map (dX p.types.length (aB p).length f.Af f.Ap))[i]!.2 (bE p.types.length (aB p).length f.Al)[i]! htl (by rw [hf4]; exact hpl) hgl (IQ _ _ _) (fun v hv => by rw [hf4]; exact IH _ _ _ hv)
   have hlvl : (uA p.types (aB p)[i]! (y9 p.types.length (aB p).length A) (bE p.types.length (aB p).length f.Al)[i]! ((List.range (aB p).length).map (dX p.types.length (aB p).length f.Af f.Ap))[i]!.2.length).length = (aB p).length := by unfold uA;rw [List.length_map,List.length_range,hf4]
   have hcn := jS (aB p) (fE p.types (aB p)[i]! (bE p.types.length (aB p).length f.Am)[i]![(aN (aB p)[i]!).toNat]!) (y9 p.types.length (aB p).length A) ((List.range (aB p).length).map (dX p.types.length (aB p).length f.Af f.Ap))[i]!.2 (uA p.types (aB p)[i]! (y9 p.types.length (aB p).length A) (bE p.types.length (aB p).length f.Al)[i]! ((List.range (aB p).length).map (dX p.types.length (aB p).length f.Af f.Ap))[i]!.2.length) hpl (by have := o6 p.types (aB p)[i]! (bE p.types.length (aB p).length f.Am)[i]![(aN (aB p)[i]!).toNat]!; omega) hf4 hlvl
   have hcf : IP (aB p) (fE p.types (aB p)[i]! (bE p.types.length (aB p).length f.Am)[i]![(aN (aB p)[i]!).toNat]!) ((List.range (aB p).length).map (dX p.types.length (aB p).length f.Af f.Ap))[i]!.2 (uA p.types (aB p)[i]! (y9 p.types.length (aB p).length A) (bE p.types.length (aB p).length f.Al)[i]! ((List.range (aB p).length).map (dX p.types.length (aB p).length f.Af f.Ap))[i]!.2.length) = xK p.types (aB p) f.Am f.Al (oQ (aB p).length A) f.Ap i := by
    rw [hfi,hf2,← Jz p.types.length (aB p).length A f.Ap hA6 htl hin]; rfl
   have hcl : (xK p.types (aB p) f.Am f.Al (oQ (aB p).length A) f.Ap i).length = (aB p).length := by unfold xK;rw [nX]
   repeat' (first|(apply aF;first|(apply aA (k := 175);rfl;exact hacc;exact Pur.pf;rfl)|(apply aA (k := 176);rfl;exact hlv;exact Pur.pf;rfl)|(apply aA (k := 174);rfl;exact hcn;exact Pur.pf;rfl)|(apply a7;rfl;rfl;rfl;rfl;rfl;(case hl => (simp;done));exact (rfl:_=[sl fQ (y9 p.types.length (aB p).length A),sl cB ((List.range (aB p).length).map (dX p.types.length (aB p).length f.Af f.Ap))[i]!.2]))|(with_reducible apply aV (d := 14)))|refine aE ?_|(refine aJ ?_ ?_ <;> intro hc hq <;> try (exfalso;omega))|refine bJ ?_|fail)
   refine bR ?_
   rw [hcf]
   repeat' (first|refine aE ?_|fail)
   refine aH (σ := Nat × List Iss × Nat) [1,4,5,6,7,8,9,10,13] [0] (fun s => [(14,iv (s.1 : Int)),(3,.own 1 0 s.2.2 3)]) (fun s => [(1,some (flat dG s.2.1))]) (fun s => s.1 ≤ (aB p).length ∧ s.2.1 = L2 ++ IV (aB p) (xK p.types (aB p) f.Am f.Al (oQ (aB p).length A) f.Ap i) i s.1 ∧ s.2.2 = s.2.1.length ∧ s.2.2 ≤ 67 * i + 6 + s.1) (fun s => (aB p).length - s.1) (0,L2,m2) ⟨Nat.zero_le _,(List.append_nil L2).symm,hm2,by show m2 ≤ 67 * i + 6 + 0;omega⟩ ?_
   rintro ⟨l,L3,m3⟩ ⟨hl,hL3,hm3,hmb3⟩
   dsimp only at hl hL3 hm3 hmb3
   try dsimp only
   by_cases hln : l < (aB p).length
   ·repeat' (first | refine aE ?_ | (refine aJ ?_ ?_ <;> intro hc hq <;> try (exfalso; omega)) | (refine bS ?_ ?_ <;> intro hg hq <;> try (exfalso; omega))|fail)
    ·(refine bD (l + 1, L3 ++ [⟨i, 3, l⟩], m3 + 1) (Le.renA [(0, 0), (1, 4)]) ?_ ?_)
     ·have hk : Ci (aB p) l = 3 := by unfold Ci; rw [if_pos (by assumption)]
      exact ⟨(by show l + 1 ≤ (aB p).length;omega),(by show L3 ++ [⟨i,3,l⟩] = _; rw [hL3,List.append_assoc,← hk,← l9 (by assumption)]),(by show m3 + 1 = (L3 ++ [_]).length;rw [List.length_append,List.length_singleton,hm3]),(by show m3 + 1 ≤ 67 * i + 6 + (l + 1);omega)⟩
     ·show (aB p).length - (l + 1) < (aB p).length - l;omega
    ·(refine bD (l + 1, L3 ++ [⟨i, 2, l⟩], m3 + 1) (Le.renA [(0, 0), (1, 4)]) ?_ ?_)
     ·have hk : Ci (aB p) l = 2 := by unfold Ci; rw [if_neg (by assumption)]
      exact ⟨(by show l + 1 ≤ (aB p).length;omega),(by show L3 ++ [⟨i,2,l⟩] = _; rw [hL3,List.append_assoc,← hk,← l9 (by assumption)]),(by show m3 + 1 = (L3 ++ [_]).length;rw [List.length_append,List.length_singleton,hm3]),(by show m3 + 1 ≤ 67 * i + 6 + (l + 1);omega)⟩
     ·show (aB p).length - (l + 1) < (aB p).length - l;omega
    ·(refine bD (l + 1, L3, m3) (Le.renA [(0, 0), (1, 1)]) ?_ ?_)
     ·exact ⟨(by show l + 1 ≤ (aB p).length;omega),(by show L3 = _; rw [tN (by assumption)]; exact hL3),hm3,(by show m3 ≤ 67 * i + 6 + (l + 1);omega)⟩
     ·show (aB p).length - (l + 1) < (aB p).length - l;omega
   ·repeat' (first | refine aE ?_ | (refine aJ ?_ ?_ <;> intro hc hq <;> try (exfalso; omega))|fail)
    (refine bD (i + 1,L3,m3) (Le.renA [(0,0),(1,1)]) ?_ ?_)
    ·refine ⟨(by show i + 1 ≤ (aB p).length; omega), ?_, hm3, (by show m3 ≤ 67 * (i + 1); omega)⟩
     show L3 = kH p.types (aB p) f.Aa f.Am f.Al (oQ (aB p).length A) f.Ap (i + 1)
     rw [iH,← Dg w f (nU A hA6 _) hin,hL3,hL2,hL,hvN,show l = (aB p).length by omega,List.append_assoc]
     rfl
    ·show (aB p).length - (i + 1) < (aB p).length - i;omega
 ·repeat' (first | refine aE ?_ | (refine aJ ?_ ?_ <;> intro hc hq <;> try (exfalso; omega))|fail)
  have hiN : i = (aB p).length := by omega
  refine aT (Le.frzD (d := 2) (i := 1) rfl rfl) ?_
  refine aD rfl ⟨?_,(by (exact a6 _ _))⟩
  simp only [aM]
  rw [hm,hL,hiN]; rfl
theorem tR {stk:List Tg}{id:Int}(h:0 ≤ cA stk id):∀ k < (cA stk id).toNat,stk[k]!.id ≠ id:=by
 unfold cA at h ⊢
 split
 ·rename_i k hk
  obtain ⟨h1,h2,h3⟩ := List.findIdx?_eq_some_iff_getElem.1 hk
  rw [Int.toNat_natCast]
  intro j hj he
  have := h3 j hj
  rw [a8 _ _ (by omega)] at he
  simp [he] at this
 ·rename_i hk;rw [hk] at h;dsimp only at h;omega
theorem wQ {stk:List Tg}{id:Int}{i:Nat}(hi:i < stk.length) (h:stk[i]!.id = id) (hn:∀ k < i,stk[k]!.id ≠ id):cA stk id = (i:Int):=by
 have hb := eG stk id
 by_cases hneg : cA stk id < 0
 ·have := pJ.1 hneg stk[i]! (by rw [a8 _ _ hi]; exact List.getElem_mem hi)
  exact absurd h this
 ·have ha := Iq (stk := stk) (id := id) (by omega)
  have hf := tR (stk := stk) (id := id) (by omega)
  rcases Nat.lt_trichotomy (cA stk id).toNat i with h1|h1|h1
  ·exact absurd ha (hn _ h1)
  ·omega
  ·exact absurd h (hf _ h1)
theorem CO (stk:List Tg) (id:Int) (hl:stk.length ≤ 1048576):PC Tryz.prog 284 [sl b8 stk,iv id] (fun r => r = iv (cA stk id)):=by
 refine aC Tryz.func284 Tryz.ntmps284 ?_
 repeat' (first|refine aE ?_|fail)
 refine aH (σ := Nat) [0,1] [] (fun i => [(5,iv (i : Int))]) (fun i => []) (fun i => i ≤ stk.length ∧ (∀ k < i,stk[k]!.id ≠ id)) (fun i => stk.length - i) (0) ⟨Nat.zero_le _,fun k hk => absurd hk (by omega)⟩ ?_
 rintro i ⟨hi,hn⟩
 try dsimp only at hi hn
 repeat' (first|refine aE ?_|(refine aJ ?_ ?_ <;> intro hc hq <;> try (exfalso;omega))|fail)
 ·refine aD rfl ⟨?_, rfl⟩
  simp only [aM]; rw [wQ (i := i) (by omega) (by assumption) hn]
 ·(refine bD (i + 1) (Le.renA []) ?_ ?_)
  ·refine ⟨by omega, fun k hk => ?_⟩
   rcases Nat.lt_or_ge k i with h|h
   ·exact hn k h
   ·rw [show k = i by omega]; assumption
  ·show stk.length - (i + 1) < stk.length - i;omega
 ·refine aD rfl ⟨?_, rfl⟩
  have := pJ (stk := stk) (id := id)
  have hb := eG stk id
  have : cA stk id < 0 := this.2 (fun t ht => by obtain ⟨k,hk,rfl⟩ := List.getElem_of_mem ht;have := hn k (by omega);rwa [a8 _ _ hk] at this)
  simp only [aM]; rw [show cA stk id = -1 by omega]
theorem oI (c:Cl):OkC c ↔ (0 ≤ c.val ∧ c.val ≤ 9) ∧ (1 ≤ c.next ∧ c.next ≤ 1000) ∧ (1 ≤ c.stk.length ∧ c.stk.length ≤ 200) ∧ c.stk[0]!.uq = true ∧ (∀ k < c.stk.length,0 ≤ c.stk[k]!.id ∧ c.stk[k]!.id < c.next ∧ cA c.stk c.stk[k]!.id = (k:Int)):=by
 constructor
 ·intro h
  refine ⟨h.v,h.n,h.l,h.u,fun k hk => ?_⟩
  have h1 := h.i c.stk[k]! (by rw [a8 _ _ hk]; exact List.getElem_mem hk)
  refine ⟨h1.1,h1.2,wQ hk rfl (fun j hj he => ?_)⟩
  have hd := List.nodup_iff_pairwise_ne.1 h.d |> List.pairwise_iff_getElem.1
  have := hd j k (by rw [List.length_map]; omega) (by rw [List.length_map]; omega) hj
  simp only [List.getElem_map] at this
  rw [a8 _ _ (by omega),a8 _ _ hk] at he
  exact this he
 ·rintro ⟨h1, h2, h3, h4, h5⟩
  refine ⟨h1,h2,h3,h4,fun t ht => ?_,?_⟩
  ·obtain ⟨k, hk, rfl⟩ := List.getElem_of_mem ht
   have := h5 k hk;rw [a8 _ _ hk] at this
   exact ⟨this.1,this.2.1⟩
  ·rw [List.nodup_iff_pairwise_ne, List.pairwise_iff_getElem]
   intro i j hi hj hij he
   rw [List.length_map] at hi hj
   simp only [List.getElem_map] at he
   have a := (h5 i hi).2.2
   have b := (h5 j hj).2.2
   rw [a8 _ _ hi] at a;rw [a8 _ _ hj,← he,a] at b
   omega
instance (c : Cl) : Decidable (OkC c) := decidable_of_iff _ (oI c).symm
theorem cS (m:List Cl):OkM m ↔ m.length ≤ 200 ∧ ∀ k < m.length,OkC m[k]!:=by
 constructor
 ·exact fun h => ⟨h.l,fun k hk => h.c _ (by rw [a8 _ _ hk]; exact List.getElem_mem hk)⟩
 ·exact fun h => ⟨h.1,fun c hc => by obtain ⟨k,hk,rfl⟩ := List.getElem_of_mem hc;have := h.2 k hk;rwa [a8 _ _ hk] at this⟩
instance (m : List Cl) : Decidable (OkM m) := decidable_of_iff _ (cS m).symm
theorem Hd (c:Cl):PC Tryz.prog 282 [NP c] (fun r => r = bv (decide (OkC c))):=by
 refine aC Tryz.func282 Tryz.ntmps282 ?_
 repeat' (first|refine aE ?_|(refine aJ ?_ ?_ <;> intro hc hq <;> try (exfalso;omega))|(refine bS ?_ ?_ <;> intro hg hq <;> try (exfalso;omega))|fail)
 all_goals try (refine aD rfl ⟨?_, rfl⟩; simp only [aM]; rw [show decide (OkC c) = false from decide_eq_false (fun h => by
  obtain ⟨h1,h2,h3,h4,h5⟩ := (oI c).1 h
  first|omega|exact absurd (by assumption : c.stk[Int.toNat 0]!.uq = false) (by rw [show Int.toNat 0 = 0 from rfl,h4]; decide))]; done)
 have hu : c.stk[0]!.uq = true := by assumption
 refine aH (σ := Nat) [1] [0] (fun i => [(3,iv (i : Int))]) (fun i => []) (fun i => i ≤ c.stk.length ∧ (∀ k < i,0 ≤ c.stk[k]!.id ∧ c.stk[k]!.id < c.next ∧ cA c.stk c.stk[k]!.id = (k : Int))) (fun i => c.stk.length - i) (0) ⟨Nat.zero_le _,fun k hk => absurd hk (by omega)⟩ ?_
 rintro i ⟨hi,hn⟩
 try dsimp only at hi hn
 repeat' (first|(apply aF;(apply aA (k := 284);rfl;exact CO c.stk c.stk[i]!.id (by omega);exact Pur.pf;rfl))|refine aE ?_|(refine aJ ?_ ?_ <;> intro hc hq <;> try (exfalso;omega))|(refine bS ?_ ?_ <;> intro hg hq <;> try (exfalso;omega))|refine bJ ?_|fail)
 all_goals try (refine aD rfl ⟨?_, rfl⟩; simp only [aM]; rw [show decide (OkC c) = false from decide_eq_false (fun h => by
  obtain ⟨h1,h2,h3,h4,h5⟩ := (oI c).1 h
  exact absurd (h5 i (by omega)) (by omega))]; done)
 ·(refine bD (i + 1) (Le.renA [(0, 0)]) ?_ ?_)
  ·refine ⟨by omega, fun k hk => ?_⟩
   rcases Nat.lt_or_ge k i with h|h
   ·exact hn k h
   ·rw [show k = i by omega]; exact ⟨by assumption,by assumption,by assumption⟩
  ·show c.stk.length - (i + 1) < c.stk.length - i;omega
 ·refine aD rfl ⟨?_, rfl⟩
  simp only [aM]
  rw [show decide (OkC c) = true from decide_eq_true ((oI c).2 ⟨by omega,by omega,by omega,hu,fun k hk => hn k (by omega)⟩)]
theorem nB (m:List Cl) (hl:m.length ≤ 1048576):PC Tryz.prog 272 [sl bG m] (fun r => r = bv (decide (OkM m))):=by
 refine aC Tryz.func272 Tryz.ntmps272 ?_
 repeat' (first|refine aE ?_|fail)
 refine aH (σ := Nat) [0] [] (fun i => [(3,iv (i : Int))]) (fun i => []) (fun i => i ≤ m.length ∧ i ≤ 201 ∧ (∀ k < i,OkC m[k]!)) (fun i => m.length - i) (0) ⟨Nat.zero_le _,by omega,fun k hk => absurd hk (by omega)⟩ ?_
 rintro i ⟨hi,hi2,hn⟩
 try dsimp only at hi hi2 hn
 repeat' (first|(apply aF;(apply aA (k := 282);rfl;exact Hd m[i]!;exact Pur.pf;rfl))|refine aE ?_|(refine aJ ?_ ?_ <;> intro hc hq <;> try (exfalso;omega))|(refine bS ?_ ?_ <;> intro hg hq <;> try (exfalso;omega))|fail)
 ·refine aD rfl ⟨?_, rfl⟩
  simp only [aM]; rw [show decide (OkM m) = false from decide_eq_false (fun h => by
   have h1 := ((cS m).1 h).2 i (by omega)
   have h2 : ¬ OkC m[i]! := by assumption
   exact h2 h1)]
 ·(refine bD (i + 1) (Le.renA []) ?_ ?_)
  ·refine ⟨by omega, by omega, fun k hk => ?_⟩
   rcases Nat.lt_or_ge k i with h|h
   ·exact hn k h
   ·rw [show k = i by omega]; assumption
  ·show m.length - (i + 1) < m.length - i;omega
 ·refine aD rfl ⟨?_, rfl⟩
  simp only [aM]
  rw [show decide ((m.length : Int) ≤ 200) = false from decide_eq_false (by omega),show decide (OkM m) = false from decide_eq_false (fun h => by have := h.l;omega)]
 ·refine aD rfl ⟨?_, rfl⟩
  simp only [aM]
  rw [show decide ((m.length : Int) ≤ 200) = decide (OkM m) from decide_eq_decide.2 ⟨fun h => (cS m).2 ⟨by omega,fun k hk => hn k (by omega)⟩,fun h => by have := h.l;omega⟩]
theorem jW (k:Int):PC Tryz.prog 246 [iv k] (fun r => r = iv (if k = 1 then 3 else if k = 0 then 0 else 4)):=by
 refine aC Tryz.func246 Tryz.ntmps246 ?_
 repeat' (first|refine aE ?_|(refine aJ ?_ ?_ <;> intro hc hq <;> try (exfalso;omega))|refine dM ?_|fail)
 all_goals (refine ⟨?_,rfl⟩; simp only [aM,AV.v.injEq,Value.bool.injEq,Value.int.injEq,true_and])
 all_goals grind
theorem qO (k:Int):PC Tryz.prog 201 [iv k] (fun r => r = iv (eZ k)):=by
 refine aC Tryz.func201 Tryz.ntmps201 ?_
 repeat' (first|refine aE ?_|(refine aJ ?_ ?_ <;> intro hc hq <;> try (exfalso;omega))|refine dM ?_|fail)
 all_goals (refine ⟨?_,rfl⟩; simp only [aM,AV.v.injEq,Value.bool.injEq,Value.int.injEq,true_and])
 all_goals grind [eZ]
theorem sG {xs:List Tg}{m:Nat}{a:Int}{b:Bool}(hm:m = xs.length):((flat b8 xs).drop 0).take (m * 2) ++ [iv a,bv b] = flat b8 (xs ++ [⟨a,b⟩]) := eV hm rfl
theorem GA {xs:List Cl}{m:Nat}{a c:Int}{b:Bool}{s:List Tg}(hm:m = xs.length):((flat bG xs).drop 0).take (m * 4) ++ [iv a,bv b,iv c,sl b8 s] = flat bG (xs ++ [⟨a,b,c,s⟩]) := eV hm rfl
theorem jG {α:Type}[Inhabited α] (l:List α){k i:Nat}(h:k ≤ i) (hi:i < l.length):(l.drop k).take (i + 1 - k) = (l.drop k).take (i - k) ++ [l[i]!]:=by
 have hl : i - k < (l.drop k).length := by rw [List.length_drop]; omega
 have h1 := b0 (l.drop k) (i - k) hl
 rw [show i + 1 - k = i - k + 1 by omega,h1]
 congr 2
 rw [a8 (l.drop k) (i - k) hl,List.getElem_drop,a8 l i hi]
 congr 1;omega
theorem pN {α}{p:α → Bool}{a:α}(h:p a = true):[a].filter p = [a] := by simp [h]
theorem mC {α}{p:α → Bool}{a:α}(h:p a = false):[a].filter p = [] := by simp [h]
theorem Fg (stk:List Tg) (k:Nat) (hk:k < stk.length) (hl:stk.length ≤ 1048576):PC Tryz.prog 277 [sl b8 stk,iv (k:Int)] (fun r => r = sl b8 (gE stk k false)):=by
 have e1 : List.take (((k : Int) + 1).toNat - 0) (List.drop 0 stk) = stk.take (k + 1) := by rw [List.drop_zero]; congr 1
 have e2 : (stk.take (k + 1)).length = k + 1 := by rw [List.length_take]; omega
 refine aC Tryz.func277 Tryz.ntmps277 ?_
 repeat' (first|(apply aF;(with_reducible apply aV (d := 12)))|refine aE ?_|fail)
 refine bR ?_
 rw [e1]
 repeat' (first|refine aE ?_|fail)
 refine aH (σ := Nat × List Tg × Nat) [0] [] (fun s => [(6,iv (s.1 : Int)),(5,.own 1 0 s.2.2 2)]) (fun s => [(1,some (flat b8 s.2.1))]) (fun s => k + 1 ≤ s.1 ∧ s.1 ≤ stk.length ∧ s.2.1 = stk.take (k + 1) ++ ((stk.drop (k + 1)).take (s.1 - (k + 1))).filter (fun t => !t.uq) ∧ s.2.2 = s.2.1.length ∧ s.2.2 ≤ s.1) (fun s => stk.length - s.1) (k + 1,stk.take (k + 1),0 + (stk.take (k + 1)).length) ⟨Nat.le_refl _,by dsimp only;omega,by simp,by dsimp only;omega,by dsimp only;omega⟩ ?_
 rintro ⟨i,xs,n⟩ ⟨hki,hi,hxs,hn,hni⟩
 dsimp only at hki hi hxs hn hni ⊢
 repeat' (first|(apply aF;first|(apply bT;rfl;rfl;rfl;rfl;rfl;(rw [aI]; omega);(rfl);omega;omega;(exact sG (by (assumption)));rfl;rfl)|(apply aL (t := _);rfl;rfl;rfl;(exact (rfl:_=some [_,_]));rfl;rfl))|refine aE ?_|(refine aJ ?_ ?_ <;> intro hc hq <;> try (exfalso;omega))|fail)
 ·(refine bD (i + 1, _, _) (Le.renA [(1, 3)]) ?_ ?_)
  ·refine ⟨by dsimp only; omega, by dsimp only; omega, ?_, by dsimp only; rw [List.length_append, hn]; rfl, by dsimp only; omega⟩
   dsimp only
   rw [hxs,jG stk hki (by omega),List.filter_append,List.append_assoc]
   congr 2
   have hu : stk[i]!.uq = false := by assumption
   rw [pN (by rw [hu]; rfl)]
  ·dsimp only;omega
 ·(refine bD (i + 1, xs, n) (Le.renA [(1, 1)]) ?_ ?_)
  ·refine ⟨by dsimp only; omega, by dsimp only; omega, ?_, hn, by dsimp only; omega⟩
   dsimp only
   have hu : stk[i]!.uq = true := by assumption
   rw [hxs,jG stk hki (by omega),List.filter_append,mC (by rw [hu]; rfl),List.append_nil]
  ·dsimp only;omega
 ·(refine aT (Le.frzD (d := 4) (i := 1) rfl rfl) ?_; refine aD rfl ?_)
  refine ⟨?_,(by (exact a6 _ _))⟩
  have hie : i = stk.length := by omega
  simp only [aM,sl]
  have hd : (stk.drop (k + 1)).take (stk.length - (k + 1)) = stk.drop (k + 1) := List.take_of_length_le (by rw [List.length_drop]; exact Nat.le_refl _)
  rw [hn,hxs,hie,hd]
  rfl
theorem Fl (m:List Cl) (hm:OkM m):PC Tryz.prog 273 [sl bG m] (fun r => r = sl bG m):=by
 have hml := hm.l
 refine aC Tryz.func273 Tryz.ntmps273 ?_
 repeat' (first|refine aE ?_|fail)
 refine aH (σ := Nat × List Cl) [0] [] (fun k => [(4,iv (k.1 : Int)),(3,.own 0 0 k.1 4)]) (fun k => [(0,some (flat bG k.2))]) (fun k => k.1 ≤ m.length ∧ k.2 = m.take k.1) (fun k => m.length - k.1) (0,[]) ⟨by omega,rfl⟩ ?_
 rintro ⟨i,xs⟩ ⟨hi,hxs⟩
 dsimp only at hi hxs ⊢
 have hln : xs.length = i := by rw [hxs,List.length_take]; exact Nat.min_eq_left hi
 have hst : i < m.length → m[i]!.stk.length ≤ 200 := fun h => (((cS m).1 hm).2 i h).l.2
 repeat' (first|(apply aF;(with_reducible apply aV (d := 21)))|refine aE ?_|(refine aJ ?_ ?_ <;> intro hc hq <;> try (exfalso;omega))|fail)
 ·refine bR (cY ?_ (Le.frzD (d := 20) (i := 3) rfl rfl))
  rw [Nat.zero_add m[i]!.stk.length]
  repeat' (first|(apply aF;first|(apply bT;rfl;rfl;rfl;rfl;rfl;(rw [aI]; omega);(rfl);omega;omega;(exact GA (by (omega)));rfl;rfl)|(apply aL (t := _);rfl;rfl;rfl;(exact (rfl:_=some [_,_,_,_]));rfl;rfl))|refine aE ?_|fail)
  (refine bD (i + 1,_) (Le.renA [(0,5)]) ?_ ?_)
  ·exact ⟨by dsimp only;omega,by dsimp only;rw [hxs,b0 m i (by omega)]⟩
  ·dsimp only;omega
 ·(refine aT (Le.frzD (d := 2) (i := 0) rfl rfl) ?_; refine aD rfl ?_)
  refine ⟨?_,(by (exact a6 _ _))⟩
  have hie : i = m.length := by omega
  simp only [aM,sl]
  rw [hxs,hie,List.take_length]
theorem Cu {m:List Cl}{x:Pt}{wr:Bool}(h:x.cell < 0 ∨ (m.length:Int) ≤ x.cell):bC m x wr = 4:=by
 unfold bC;rw [if_pos (by omega)]
theorem GX {m:List Cl}{x:Pt}{wr:Bool}(h:0 ≤ x.cell) (h2:x.cell < m.length) (h3:m[x.cell.toNat]!.alive = false):bC m x wr = 1:=by
 unfold bC;rw [if_neg (by omega),if_pos h3]
theorem Fy {m:List Cl}{x:Pt}{wr:Bool}(h:0 ≤ x.cell) (h2:x.cell < m.length) (h3:m[x.cell.toNat]!.alive = true) (h4:cA m[x.cell.toNat]!.stk x.tag < 0):bC m x wr = 2:=by
 unfold bC;rw [if_neg (by omega),if_neg (by rw [h3]; decide),if_pos h4]
theorem qU {m:List Cl}{x:Pt}(h:0 ≤ x.cell) (h2:x.cell < m.length) (h3:m[x.cell.toNat]!.alive = true) (h4:0 ≤ cA m[x.cell.toNat]!.stk x.tag):bC m x false = 0:=by
 unfold bC;rw [if_neg (by omega),if_neg (by rw [h3]; decide),if_neg (by omega),if_neg (by intro q;exact absurd q.1 (by decide))]
theorem xO {m:List Cl}{x:Pt}:bC m x true = if bC m x false = 0 then (if m[x.cell.toNat]!.stk[(cA m[x.cell.toNat]!.stk x.tag).toNat]!.uq = false then 3 else 0) else bC m x false:=by
 unfold bC
 split
 ·rw [if_neg (by decide)]
 ·split
  ·rw [if_neg (by decide)]
  ·split
   ·rw [if_neg (by decide)]
   ·rw [if_neg (c := false = true ∧ _) (by intro q; exact absurd q.1 (by decide)), if_pos rfl]
    simp only [true_and]
theorem dH {m:List Cl}{x:Pt}{wr:Bool}(h:bC m x wr = 0):0 ≤ x.cell ∧ x.cell < m.length ∧ m[x.cell.toNat]!.alive = true ∧ 0 ≤ cA m[x.cell.toNat]!.stk x.tag ∧ (wr = true → m[x.cell.toNat]!.stk[(cA m[x.cell.toNat]!.stk x.tag).toNat]!.uq = true):=by
 unfold bC at h
 split at h
 ·omega
 ·split at h
  ·omega
  ·split at h
   ·omega
   ·split at h
    ·omega
    ·rename_i a b c d
     refine ⟨by omega,by omega,by simpa using b,by omega,fun hw => ?_⟩
     by_cases q : m[x.cell.toNat]!.stk[(cA m[x.cell.toNat]!.stk x.tag).toNat]!.uq = false
     ·exact absurd ⟨hw,q⟩ d
     ·simpa using q
theorem eJ {m:List Cl}{x0:Operand}(ha0:ev (lk tsl) x0 = some (sl bG m)) (hmc:MC Tryz.prog 273 [sl bG m] [] 0 (fun _:Unit => True) (fun _ => .own 0 0 m.length 4) (fun _ => [(0,some (flat bG m))])) (hM:Nat.ble (nidl + 1) aQ = true) (hN:Nat.blt d N = true){md':Md}[hmd:MdA md (fR [x0] ++ []) (List.map Sum.inr (List.map Prod.fst ([(nidl,some (flat bG m))]:List (Nat × Option (List AV)))) ++ [.inl d]) md'] (kk:RW Tryz.prog N all Q md' rest ⟨(d,.own nidl 0 m.length 4) :: tsl,iB hsl [(nidl,some (flat bG m))],nidl + 1,z0⟩):RW Tryz.prog N all Q md (⟨some d,.call ⟨.value (.func 273),#[x0],tys⟩,ty,pos,af,none⟩ :: rest) ⟨tsl,hsl,nidl,z0⟩:=by
 exact bB (l := [x0]) [] 1 [(nidl,some (flat bG m))] hmc (avs := [sl bG m]) (by simp only [evL,ha0]) rfl hM hN (md' := md') (hmd := hmd) kk
theorem fN (m:List Cl) (hm:OkM m):MC Tryz.prog 273 [sl bG m] [] 0 (fun _:Unit => True) (fun _ => .own 0 0 m.length 4) (fun _ => [(0,some (flat bG m))]):=by
 have hml := hm.l
 refine aW Tryz.func273 Tryz.ntmps273 ?_
 repeat' (first|refine aE ?_|fail)
 refine aH (σ := Nat × List Cl) [0] [] (fun k => [(4,iv (k.1 : Int)),(3,.own 0 0 k.1 4)]) (fun k => [(0,some (flat bG k.2))]) (fun k => k.1 ≤ m.length ∧ k.2 = m.take k.1) (fun k => m.length - k.1) (0,[]) ⟨by omega,rfl⟩ ?_
 rintro ⟨i,xs⟩ ⟨hi,hxs⟩
 dsimp only at hi hxs ⊢
 have hln : xs.length = i := by rw [hxs,List.length_take]; exact Nat.min_eq_left hi
 have hst : i < m.length → m[i]!.stk.length ≤ 200 := fun h => (((cS m).1 hm).2 i h).l.2
 repeat' (first|(apply aF;(with_reducible apply aV (d := 21)))|refine aE ?_|(refine aJ ?_ ?_ <;> intro hc hq <;> try (exfalso;omega))|fail)
 ·refine bR (cY ?_ (Le.frzD (d := 20) (i := 3) rfl rfl))
  rw [Nat.zero_add m[i]!.stk.length]
  repeat' (first|(apply aF;first|(apply bT;rfl;rfl;rfl;rfl;rfl;(rw [aI]; omega);(rfl);omega;omega;(exact GA (by (omega)));rfl;rfl)|(apply aL (t := _);rfl;rfl;rfl;(exact (rfl:_=some [_,_,_,_]));rfl;rfl))|refine aE ?_|fail)
  (refine bD (i + 1,_) (Le.renA [(0,5)]) ?_ ?_)
  ·exact ⟨by dsimp only;omega,by dsimp only;rw [hxs,b0 m i (by omega)]⟩
  ·dsimp only;omega
 ·have hie : i = m.length := by omega
  (refine aD rfl ?_; refine aR () trivial ?_ ⟨sE ?_,trivial⟩)
  ·rw [hie]; rfl
  ·rw [hxs,hie,List.take_length]
theorem j7 (m:List Cl) (hm:OkM m) (x:Pt):PC Tryz.prog 276 [sl bG m,mQ x] (fun r => r = .tup [iv (if bC m x false = 0 then cA m[x.cell.toNat]!.stk x.tag else 0),iv (bC m x false)]):=by
 have hml := hm.l
 have hcv := nB m (by omega)
 rw [decide_eq_true hm] at hcv
 have hst : 0 ≤ x.cell → x.cell < m.length → m[x.cell.toNat]!.stk.length ≤ 1048576 := fun h1 h2 => Nat.le_trans (((cS m).1 hm).2 x.cell.toNat (by omega)).l.2 (by decide)
 refine aC Tryz.func276 Tryz.ntmps276 ?_
 repeat' (first|(apply aF;first|(apply aA (k := 272);rfl;exact hcv;exact Pur.pf;rfl)|(apply aA (k := 284);rfl;exact CO m[x.cell.toNat]!.stk x.tag (hst (by assumption) (by assumption));exact Pur.pf;rfl))|refine aE ?_|(refine aJ ?_ ?_ <;> intro hc hq <;> try (exfalso;omega))|(refine bS ?_ ?_ <;> intro hg hq <;> try (exfalso;omega))|refine bJ ?_|fail)
 all_goals (refine aD rfl ⟨?_,rfl⟩; simp only [aM])
 ·rw [Cu (by omega)]; rfl
 ·rw [GX (by assumption) (by assumption) (by assumption)]; rfl
 ·rw [Fy (by assumption) (by assumption) (by assumption) (by assumption)]; rfl
 ·rw [qU (by assumption) (by assumption) (by assumption) (by assumption)]; rfl
 ·rw [Cu (by omega)]; rfl
theorem Bl {xs:List Cl}{k:Nat}{s:List Tg}(hk:k < xs.length):gQ (flat bG xs) (0 + k * 4 + 3) [sl b8 s] = flat bG (xs.set k { xs[k]! with stk := s }) := fZ hk (by simp) rfl
theorem Kz {xs:List Cl}{k:Nat}{v:Int}(hk:k < xs.length):gQ (flat bG xs) (0 + k * 4 + 0) [iv v] = flat bG (xs.set k { xs[k]! with val := v }) := fZ hk (by simp) rfl
theorem K5 {xs:List Cl}{k:Nat}{b:Bool}(hk:k < xs.length):gQ (flat bG xs) (0 + k * 4 + 1) [.v (.bool b)] = flat bG (xs.set k { xs[k]! with alive := b }) := fZ hk (by simp) rfl
theorem eF {α:Type}{f:α → List AV}{xs:List α}{n:Nat}(h:n = xs.length):AV.imm n (flat f xs) = sl f xs := by subst h;rfl
theorem p9 (m:List Cl) (hm:OkM m) (x:Pt):PC Tryz.prog 252 [sl bG m,mQ x] (fun r => r = .tup [sl bG (dO m x false),iv (nS m x),iv (bC m x false)]):=by
 have hml := hm.l
 have hst : 0 ≤ x.cell → x.cell < m.length → m[x.cell.toNat]!.stk.length ≤ 1048576 := fun h1 h2 => Nat.le_trans (((cS m).1 hm).2 x.cell.toNat (by omega)).l.2 (by decide)
 by_cases hk : bC m x false = 0
 ·have hpl := j7 m hm x
  rw [if_pos hk,hk] at hpl
  obtain ⟨h1,h2,h3,h4,_⟩ := dH hk
  have hbd := eG m[x.cell.toNat]!.stk x.tag
  have hrd := Fg m[x.cell.toNat]!.stk (cA m[x.cell.toNat]!.stk x.tag).toNat (by omega) (hst h1 h2)
  rw [Int.toNat_of_nonneg h4] at hrd
  refine aC Tryz.func252 Tryz.ntmps252 ?_
  repeat' (first|(apply aF;first|(apply eJ;rfl;exact fN m hm;rfl;rfl)|(apply aA (k := 276);rfl;exact hpl;exact Pur.pf;rfl)|(apply aA (k := 277);rfl;exact hrd;exact Pur.pf;rfl)|(apply a7;rfl;rfl;rfl;rfl;rfl;(rw [aI]; simp only [fT] <;> omega);(exact Bl (by (omega)))))|refine aE ?_|refine bJ ?_|fail)
  (refine aT (Le.frzD (d := 4) (i := 1) rfl rfl) ?_; refine aD rfl ?_)
  refine ⟨?_,by exact Pur.pf⟩
  simp only [aM]
  rw [eF (by rw [List.length_set]),hk]
  unfold dO nS;rw [if_pos hk,if_pos hk]; rfl
 ·have hpl := j7 m hm x
  rw [if_neg hk] at hpl
  refine aC Tryz.func252 Tryz.ntmps252 ?_
  repeat' (first|(apply aF;first|(apply eJ;rfl;exact fN m hm;rfl;rfl)|(apply aA (k := 276);rfl;exact hpl;exact Pur.pf;rfl))|refine aE ?_|(refine aJ ?_ ?_ <;> intro hc hq <;> try (exfalso;omega))|fail)
  (refine aT (Le.frzD (d := 4) (i := 1) rfl rfl) ?_; refine aD rfl ?_)
  refine ⟨?_,by exact Pur.pf⟩
  simp only [aM]
  unfold dO nS;rw [if_neg hk,if_neg hk]
end Go.Proofs.YtahdccneecdmmaaGreat
