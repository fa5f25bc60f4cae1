/-
 A part of the proofs over this program: rules and contracts of its functions (the contracts).
-/
import Derived.Test.YtahdccneecdmmaaGreatE2B02
set_option linter.unusedVariables false
set_option linter.unusedSimpArgs false
set_option maxHeartbeats 8000000
set_option maxRecDepth 4000
attribute [local irreducible] Go.AL.RW Go.AL.AW Go.AL.Stop
namespace Go.Proofs.YtahdccneecdmmaaGreat
open Go.AL Go.RowKit
def FR (nv N : Nat) (i : Nat) : List AV := [.imm nv (flat (y9 (i * (nv + 1)) N) (List.range nv)),.own (i * (nv + 1) + nv + aV) 0 N 1]
instance (nv N : Nat) : FlT (FR nv N) 2:=⟨fun _ => rfl⟩
instance (nv N : Nat) : FE (FR nv N) (fun i => [.imm nv (flat (y9 (i * (nv + 1)) N) (List.range nv)),.own (i * (nv + 1) + nv + aV) 0 N 1]):=⟨fun _ => rfl⟩
theorem pM {m:List (Nat × Nat)}{lo:Lo}{pn:Option Nat}{nv N k M:Nat}(hk:k ≤ M) (h:lo.fb = aV + M * (nv + 1)):RnL (jA m lo pn) (flat (FR nv N) (List.range k)) (flat (FR nv N) (List.range k)) :=
 RnL.flt fun i hi => by
  rw [List.mem_range] at hi
  have h1 : i * (nv + 1) + nv < M * (nv + 1) := gA (by omega) (by omega)
  exact .cons (.imm (cV (by rw [h]; omega))) (.cons (.own (gX (by omega) (by rw [h]; omega))) .nil)
theorem Hw {m:List (Nat × Nat)}{lo:Lo}{pn:Option Nat}{nv N k:Nat}(h:lo.fb = aV + (k + 1) * (nv + 1)):RnL (jA m lo pn) (flat (FR nv N) (List.range (k + 1))) (((flat (FR nv N) (List.range k)).drop 0).take (k * 2) ++ FR nv N k):=by
 have e : ((flat (FR nv N) (List.range k)).drop 0).take (k * 2) = flat (FR nv N) (List.range k) := List.take_of_length_le (by rw [List.drop_zero,aI (FR nv N) (e := 2)]; simp)
 have := pM (m := m) (pn := pn) (N := N) (Nat.le_refl (k + 1)) h
 rw [e]
 rw [List.range_succ,← cH,lD] at this ⊢
 exact this
def Oo (s : List (List Bool) × List Bool) : List AV := [sl gL s.1,sl cB s.2]
instance : FlT Oo 2:=⟨fun _ => rfl⟩
instance : FE Oo (fun s => [sl gL s.1,sl cB s.2]):=⟨fun _ => rfl⟩
theorem Lk {D:List Nat}{hs:List (Nat × Option (List AV))}{R:List (List Bool)}{nv N M n:Nat}(hF:FamR R R hs hs) (hD:∀ k,k < nv + 1 → n * (nv + 1) + k + aV ∈ D) (hlo:R.length = M * (nv + 1)) (hn:n < M) (hro:∀ q,q < R.length → R[q]!.length = N) :
  LdL D (aO hs) (FR nv N n) [sl gL (jZ nv R n),sl cB (kL nv R n)] := by
 have h1 : n * (nv + 1) + nv < M * (nv + 1) := gA hn (by omega)
 have h2 : (jZ nv R n).length = nv := qX hlo hn
 have h3 : (kL nv R n).length = N := hro _ (by omega)
 have e1 : sl gL (jZ nv R n) = .imm nv (flat gL ((R.drop (n * (nv + 1))).take nv)) := by unfold sl;rw [h2]; rfl
 have e2 : sl cB (kL nv R n) = .imm N (flat cB (kL nv R n)) := by unfold sl;rw [h3]
 rw [e1,e2]
 exact .cons (.imm (LdL.rows hF (fun k hk => hD k (by omega)) (by omega) (fun k hk => hro _ (by omega)))) (.cons (.own (hD nv (by omega)) (hF.get (by omega)) (.pur (inferInstance : Pur (flat cB _)).pf)) .nil)
def Kl (b : Nat) : List Nat := [b + 0 + aV,b + 1 + aV,b + 2 + aV,b + 3 + aV,b + 4 + aV,b + 5 + aV,b + 6 + aV]
theorem Bs {b k:Nat}(h:k < 7):b + k + aV ∈ Kl b:=by
 unfold Kl
 match k,h with
 | 0,_ => simp
 | 1,_ => simp
 | 2,_ => simp
 | 3,_ => simp
 | 4,_ => simp
 | 5,_ => simp
 | 6,_ => simp
theorem tN {nv N n k:Nat}{R:List (List Bool)}(hlo:R.length = N * (nv + 1)) (hn:n < N) (hk:k < nv + 1):((R.drop (n * (nv + 1))).take (nv + 1))[k]! = R[n * (nv + 1) + k]!:=by
 have h1 := gA hn hk
 have h2 : n * (nv + 1) + nv < N * (nv + 1) := gA hn (by omega)
 rw [aS _ _ (by rw [List.length_take,List.length_drop]; omega),aS _ _ (by omega),List.getElem_take,List.getElem_drop]
theorem j3 {nv N n:Nat}{R:List (List Bool)}(hlo:R.length = N * (nv + 1)) (hn:n < N):((R.drop (n * (nv + 1))).take (nv + 1)).length = nv + 1:=by
 have h2 : n * (nv + 1) + nv < N * (nv + 1) := gA hn (by omega)
 rw [List.length_take,List.length_drop]; omega
theorem Fo (ts:List Int) (pts:List Pnt) (w:WG ts pts) (i:Nat) (hi:i < pts.length) (R:List (List Bool)) (h:FSd ts pts R) :
  NC Tryz.prog 223 [sl cI ts,sl bZ pts,iv (i : Int),ML 0 ts.length pts.length] ((R.drop (i * (ts.length + 1))).take (ts.length + 1)) (.agg [sl gL (pK ts pts i (jZ ts.length R i)),sl cB (pJ ts pts i (kL ts.length R i))]) [] := by
 have h1 := Ee ts pts w i hi ((R.drop (i * (ts.length + 1))).take (ts.length + 1)) (j3 h.lo hi) (fun k hk => by rw [tN h.lo hi hk]; exact h.ro _ (by rw [h.lo]; exact gA hi hk))
 rw [tN h.lo hi (by omega),List.take_take,show min ts.length (ts.length + 1) = ts.length from by omega] at h1
 exact h1
theorem C3 {ts:List Int}{pts:List Pnt}(w:WG ts pts){R:List (List Bool)}(h:FSd ts pts R){i v:Nat}(hi:i < pts.length) (hv:v < ts.length):(pK ts pts i (jZ ts.length R i))[v]!.length = pts.length:=by
 rw [kO _ _ _ _ _ hv]
 split
 ·exact iZ _ _ _ _
 ·split
  ·simp
  ·rw [gN h.lo hi hv]; exact h.ro _ (by rw [h.lo]; exact gA hi (by omega))
theorem tX {b:List Bool}{R:List (List Bool)}{k m:Nat}{N:Nat}{Q:Exit → AS → Prop}{all:Array Oper}{rest:List Oper}{tsl:List (Nat × AV)}{hsl:List (Nat × Option (List AV))}{nidl:Nat}{z0:Lo}{md:Md}{d:Nat}{ty:TypeId}{pos:String}{af:Array Edge}{tys:Array TypeId}{x0 x1:Operand}(ha0:ev (lk tsl) x0 = some (.own (k + aV) 0 m 1)) (ha1:ev (lk tsl) x1 = some (sl cB b))
  (hF : FamR R R hsl hsl) (hk : k < R.length) (hm : m = R[k]!.length) (hab : b.length ≤ R[k]!.length) (hl : R[k]!.length ≤ 1048576) (hM : Nat.ble (nidl + 0) aV = true) (hN : Nat.blt d N = true) {md' : Md} [hmd : MdA md (fU [x0,x1] ++ [.inr (k + aV)]) [.inr (k + aV),.inl d] md']
  (kk : RW Tryz.prog N all Q md' rest ⟨(d,.tup []) :: tsl,(k + aV,some (flat cB (gE R[k]! b))) :: hsl,nidl + 0,z0⟩) : RW Tryz.prog N all Q md (⟨some d,.call ⟨.value (.func 225),#[x0,x1],tys⟩,ty,pos,af,none⟩ :: rest) ⟨tsl,hsl,nidl,z0⟩ :=
 Aw (a := R[k]!) (b := b) (i0 := k + aV) ha0 ha1 (hF.get hk) (C6 R[k]! b m hm hab hl) hM hN (md' := md') (hmd := hmd) kk
theorem zP (p:Prg) (Af Ap:List Nat) (hs:aU p.body ≤ 1048576) (w:WG p.types (aC p)) (hAf:qP p.types (aC p) Af) (hAp:qI p.types (aC p) Ap):PC Tryz.prog 171 [bQ p] (fun r => r = sl Oo ((List.range (aC p).length).map (g9 p.types.length (aC p).length Af Ap))):=by
 have hpl := w.pl
 have hp0 := w.p0
 have htl := w.tl
 refine aB Tryz.func171 Tryz.ntmps171 ?_
 repeat' (first|(apply aF;(apply aA (k := 132);rfl;exact c6 p hs;exact Pur.pf;rfl))|refine aE ?_|fail)
 refine dT (σ := Nat) (fun k => List.replicate ((p.types.length + 1) * k) (List.replicate (aC p).length false)) [1,3] [0] (fun k => [(5,iv (k : Int)),(4,.own 1 0 k 2)]) (fun k => [(1,some (flat (FR p.types.length (aC p).length) (List.range k)))]) (fun k => k ≤ (aC p).length) (fun k => (aC p).length - k) (0) (Nat.zero_le _) ?_
 intro k hk
 try dsimp only
 repeat' (first|(apply aF;first|(with_reducible apply aW (d := 27))|(with_reducible apply aW (d := 6)))|refine aE ?_|(refine aJ ?_ ?_ <;> intro hc hq <;> try (exfalso;omega))|fail)
 ·have hrep : List.replicate ((p.types.length + 1) * k) (List.replicate (aC p).length false) ++ List.replicate (p.types.length + 1) (List.replicate (aC p).length false) = List.replicate ((p.types.length + 1) * (k + 1)) (List.replicate (aC p).length false) := by
   rw [List.replicate_append_replicate,Nat.mul_succ]
  refine bU ?_
  have hst := Ed p.types.length (aC p).length htl hpl
  apply F6 (R := List.replicate ((p.types.length + 1) * k) (List.replicate (aC p).length false)) (avs := [iv (p.types.length : Int),iv ((aC p).length : Int)]) (rr' := ML (k * (p.types.length + 1)) p.types.length (aC p).length) (h := hst)
  case ha => rfl
  case hp => rfl
  case hF => (repeat' (first|exact FamR.here|(apply FamR.cons;focus rfl)))
  case hz => rfl
  case hM => rfl
  case hN => rfl
  case hr =>
   refine .agg (.cons (.imm (rn_rows fun j hj => ?_)) (.cons (.own ?_) .nil))
   ·rw [if_pos (by rw [List.length_replicate]; omega)]; congr 1;rw [List.length_replicate,Nat.mul_comm]; omega
   ·rw [if_pos (by rw [List.length_replicate]; omega)]; congr 1;rw [List.length_replicate,Nat.mul_comm]; omega
  rw [hrep]
  repeat' (first|(apply aF;(apply bS;rfl;rfl;rfl;rfl;rfl;(case hl => (simp [aI]; done));(rfl);omega;omega;(rfl);rfl;rfl))|refine aE ?_|fail)
  (apply bC (k + 1);focus (refine Le.renF0 [(0,0),(1,3)] (R := ?qA1) (hF := ?qF1) (hz := ?qz1) (hm := ?qm1) (hn := ?qn1) (h1 := ?q11) (h2 := ?q21);(case qF1 => (repeat' (first|exact FamR.here|(apply FamR.cons;focus rfl))));(case qz1 => (rfl));(case qm1 => rfl);(case qn1 => decide);all_goals (repeat' (first|exact trivial|refine And.intro ⟨_,rfl,?_⟩ ?_|refine And.intro ⟨_,_,rfl,rfl,?_⟩ ?_|exact RnL.purI inferInstance|exact RnV.purI inferInstance|exact RnV.own rfl|exact RnV.optr rfl|exact Hw (by show aV + (List.replicate ((p.types.length + 1) * (k + 1)) (List.replicate (aC p).length false)).length = _; rw [List.length_replicate,Nat.mul_comm])))))
  ·show k + 1 ≤ (aC p).length;omega
  ·show (aC p).length - (k + 1) < (aC p).length - k;omega
 ·have hkN : k = (aC p).length := by omega
  subst hkN
  refine bU (cX ?_ (Le.frzD (d := 4) (i := 1) rfl rfl))
  rw [Nat.mul_comm]
  repeat' (first|refine aE ?_|fail)
  refine dT (σ := List (List Bool) × Bool) (fun s => s.1) [1,3,4] [0] (fun s => [(6,bv s.2)]) (fun s => []) (fun s => FH p.types (aC p) s.1 s.2) (fun s => OE p.types (aC p) s.1 s.2) (List.replicate ((aC p).length * (p.types.length + 1)) (List.replicate (aC p).length false),true) (FH.init _ _) ?_
  rintro ⟨R,c⟩ hFH
  try dsimp only at hFH
  try dsimp only
  have hRl := hFH.d.lo
  have hRr := hFH.d.ro
  cases c with
  | false =>
   repeat' (first|refine aE ?_|fail)
   have hfin := hFH.final w hAf hAp
   refine aR (Le.frzAll (d := 2) (D := (List.range R.length).map fun k => k + aV) rfl (.imm (LdL.flt fun n hn => Lk (R := R) (M := (aC p).length) (by (repeat' (first|exact FamR.here|(apply FamR.cons;focus rfl)))) (fun k hk => List.mem_map.2 ⟨n * (p.types.length + 1) + k,by rw [List.mem_range,hRl]; exact gA (List.mem_range.1 hn) hk,rfl⟩) hRl (List.mem_range.1 hn) hRr))) ?_
   refine aD rfl ⟨?_,(by (exact a9 _ _))⟩
   simp only [aM]
   have e1 : (List.range (aC p).length).map (fun n => (jZ p.types.length R n, kL p.types.length R n)) = (List.range (aC p).length).map (g9 p.types.length (aC p).length Af Ap) := List.map_congr_left fun n hn => by
    have := hfin n (List.mem_range.1 hn)
    rw [this.1,this.2]
   have e2 : flat (fun n => [sl gL (jZ p.types.length R n), sl cB (kL p.types.length R n)]) (List.range (aC p).length) = flat Oo ((List.range (aC p).length).map (g9 p.types.length (aC p).length Af Ap)) := by
    rw [← e1,flat,flat,List.flatMap_map]; rfl
   rw [e2]
   simp only [sl,List.length_map,List.length_range]
  | true =>
   have hst := hFH.start
   repeat' (first|refine aE ?_|fail)
   refine dT (σ := Nat × List (List Bool) × Bool) (fun s => s.2.1) [1,3,4] [0] (fun s => [(6,bv s.2.2),(7,iv (s.1 : Int))]) (fun s => []) (fun s => s.1 ≤ (aC p).length ∧ FS p.types (aC p) R s.2.1 s.2.2 (DF s.1 0)) (fun s => (aC p).length - s.1) (0,R,false) ⟨Nat.zero_le _,hst⟩ ?_
   rintro ⟨j,R1,c1⟩ ⟨hj,hS1⟩
   dsimp only at hj hS1
   have hl1 := hS1.d.lo
   try dsimp only
   by_cases hjn : j < (aC p).length
   ·have hnl := w.nl j hjn
    repeat' (first|(apply aF;first|(apply Au (k := 223) (R := R1) (avs0 := [sl cI p.types,sl bZ (aC p),iv (j : Int),ML 0 p.types.length (aC p).length]) (b := j * (p.types.length + 1)) (n1 := 0) (D := Kl (j * (p.types.length + 1))) (ws := []) (h := Fo p.types (aC p) w j hjn R1 hS1.d) (rr' := .agg [sl gL (pK p.types (aC p) j (jZ p.types.length R1 j)),sl cB (pJ p.types (aC p) j (kL p.types.length R1 j))]);(case ha => rfl);(case hF => (repeat' (first|exact FamR.here|(apply FamR.cons;focus rfl))));(case hb => (rw [j3 hl1 hjn]; have := gA (v := p.types.length) hjn (Nat.lt_succ_self _);omega));(case hR => exact fun k hk => tN hl1 hjn (by rwa [j3 hl1 hjn] at hk));(case hD => exact fun k hk => Bs (by rw [j3 hl1 hjn] at hk;omega));(case har => exact .cons (RnV.purI inferInstance) (.cons (RnV.purI inferInstance) (.cons (RnV.purI inferInstance) (.cons (.agg (.cons (.imm (rn_rows fun k hk => (by rw [Nat.zero_add,m8 (by rw [j3 hl1 hjn]; omega)]))) (.cons (.own (by rw [Nat.zero_add,m8 (by rw [j3 hl1 hjn]; omega)])) .nil))) .nil))));(case hk => rfl);(case hr => exact RnV.purI inferInstance);(case hw => exact trivial);(case hM|hN => rfl))|(apply nS;rfl;rfl;(assumption);rfl;infer_instance;infer_instance;rfl)|(apply bB;rfl;rfl;rfl;rfl;rfl;(case hl => (simp;done));(exact (rfl:_=[_,_]))))|refine aE ?_|(refine aJ ?_ ?_ <;> intro hc hq <;> try (exfalso;omega))|refine bI ?_|fail)
    refine dT (σ := Nat × List (List Bool) × Bool) (fun s => s.2.1) [1,3,4,7,8] [0,2] (fun s => [(6,bv s.2.2),(9,iv (s.1 : Int))]) (fun s => []) (fun s => s.1 ≤ (aC p)[j]!.next.length ∧ FS p.types (aC p) R s.2.1 s.2.2 (DF j s.1) ∧ (s.2.2 = false → s.2.1 = R1)) (fun s => (aC p)[j]!.next.length - s.1) (0,R1,c1) ⟨Nat.zero_le _,hS1,fun _ => rfl⟩ ?_
    rintro ⟨kk,R2,c2⟩ ⟨hk,hS2,hc2⟩
    dsimp only at hk hS2 hc2
    have hl2 := hS2.d.lo
    have hr2 := hS2.d.ro
    try dsimp only
    by_cases hkn : kk < (aC p)[j]!.next.length
    ·have hnx := w.nx j hjn _ (aN _ _ hkn)
     have hnn : ((aC p)[j]!.next[kk]!).toNat < (aC p).length := by omega
     have hix : ((aC p)[j]!.next[kk]!).toNat * (p.types.length + 1) + p.types.length < R2.length := by rw [hl2]; exact gA hnn (by omega)
     have hrix := hr2 _ hix
     have hqa := cJ p.types (aC p) j (kL p.types.length R1 j)
     have hw1 := BJ (pK p.types (aC p) j (jZ p.types.length R1 j)) (jZ p.types.length R2 ((aC p)[j]!.next[kk]!).toNat) (pJ p.types (aC p) j (kL p.types.length R1 j)) (kL p.types.length R2 ((aC p)[j]!.next[kk]!).toNat) (by rw [cJ]; exact hpl) (by rw [dQ]; exact htl)
      (by rw [cJ]; exact hr2 _ (by rw [hl2]; exact gA hnn (by omega))) (by rw [dQ]; exact qX hl2 hnn) (fun v hv => by rw [dQ] at hv;rw [cJ]; exact C3 w hS1.d hjn hv) (fun v hv => by rw [dQ] at hv;rw [cJ,gN hl2 hnn hv]; exact hr2 _ (by rw [hl2]; exact gA hnn (by omega)))
     repeat' (first|(apply aF;first|((with_reducible apply lT (k := 224) (D := Kl (((aC p)[j]!.next[kk]!).toNat * (p.types.length + 1))) (h := hw1));(case ha => rfl);(case hl => exact .cons (.pur (PurV.pf)) (.cons (.agg (Lk (R := R2) (M := (aC p).length) (by (repeat' (first|exact FamR.here|(apply FamR.cons;focus rfl)))) (fun k hk => Bs (by omega)) hl2 hnn hr2)) .nil));(case hfr|hN => rfl))|(apply tX;rfl;rfl;(case hF => (repeat' (first|exact FamR.here|(apply FamR.cons;focus rfl))));omega;omega;omega;omega;rfl;rfl)|(with_reducible apply aW (d := 11))|(apply jO;rfl;rfl;(assumption);rfl;infer_instance;infer_instance;rfl))|refine aE ?_|(refine aJ ?_ ?_ <;> intro hc hq <;> try (exfalso;omega))|refine bI ?_|fail)
     ·refine bU ?_
      apply cX
      case k =>
       apply Le.fset (R := R2) (hk := hix)
       (repeat' (first|exact FamR.here|(apply FamR.cons;focus rfl)))
      rw [GP hix]
      repeat' (first|refine aE ?_|fail)
      refine dT (σ := Nat) (fun v => zS R2 (((aC p)[j]!.next[kk]!).toNat * (p.types.length + 1)) p.types.length (pK p.types (aC p) j (jZ p.types.length R1 j)) (pJ p.types (aC p) j (kL p.types.length R1 j)) v) [1,3,4,7,8,9,10] [0,2] (fun v => [(11,iv (v : Int))]) (fun v => []) (fun v => v ≤ p.types.length) (fun v => p.types.length - v) (0) (Nat.zero_le _) ?_
      intro v hv
      try dsimp only
      have hjl := e7 R2 (((aC p)[j]!.next[kk]!).toNat * (p.types.length + 1)) p.types.length (pK p.types (aC p) j (jZ p.types.length R1 j)) (pJ p.types (aC p) j (kL p.types.length R1 j)) v
      have hal := dQ p.types (aC p) j (jZ p.types.length R1 j)
      by_cases hvn : v < p.types.length
      ·have hav := C3 w hS1.d hjn hvn
       have hjr : (zS R2 (((aC p)[j]!.next[kk]!).toNat * (p.types.length + 1)) p.types.length (pK p.types (aC p) j (jZ p.types.length R1 j)) (pJ p.types (aC p) j (kL p.types.length R1 j)) v)[((aC p)[j]!.next[kk]!).toNat * (p.types.length + 1) + v]!.length = (aC p).length := by
        rw [fX _ _ _ _ _ _ _ (by omega),if_neg (by omega),if_neg (by omega)]; exact hr2 _ (by omega)
       repeat' (first|(apply aF;first|(apply tX;rfl;rfl;(case hF => (repeat' (first|exact FamR.here|(apply FamR.cons;focus rfl))));omega;omega;omega;omega;rfl;rfl)|(with_reducible apply aW (d := 84))|(apply nS;rfl;rfl;(assumption);rfl;infer_instance;infer_instance;rfl)|(apply jO;rfl;rfl;(assumption);rfl;infer_instance;infer_instance;rfl))|refine aE ?_|(refine aJ ?_ ?_ <;> intro hc hq <;> try (exfalso;omega))|refine bI ?_|fail)
       refine bU ?_
       apply cX
       case k =>
        apply Le.fset (R := zS R2 (((aC p)[j]!.next[kk]!).toNat * (p.types.length + 1)) p.types.length (pK p.types (aC p) j (jZ p.types.length R1 j)) (pJ p.types (aC p) j (kL p.types.length R1 j)) v) (hk := (by omega))
        (repeat' (first|exact FamR.here|(apply FamR.cons;focus rfl)))
       rw [Ga hix hvn]
       repeat' (first|refine aE ?_|fail)
       (apply bC (v + 1);focus (refine Le.renF0 [(0,0),(2,2)] (R := ?qA2) (hF := ?qF2) (hz := ?qz2) (hm := ?qm2) (hn := ?qn2) (h1 := ?q12) (h2 := ?q22);(case qF2 => (repeat' (first|exact FamR.here|(apply FamR.cons;focus rfl))));(case qz2 => (simp only [e7]));(case qm2 => rfl);(case qn2 => decide);all_goals (repeat' (first|exact trivial|refine And.intro ⟨_,rfl,?_⟩ ?_|refine And.intro ⟨_,_,rfl,rfl,?_⟩ ?_|exact RnL.purI inferInstance|exact RnV.purI inferInstance|exact RnV.optr rfl|exact RnV.imm (pM (M := (aC p).length) (Nat.le_refl _) (by show aV + (zS _ _ _ _ _ _).length = _; rw [e7,hl2]))))))
       ·show v + 1 ≤ p.types.length;omega
       ·show p.types.length - (v + 1) < p.types.length - v;omega
      ·repeat' (first | refine aE ?_ | (refine aJ ?_ ?_ <;> intro hc hq <;> try (exfalso; omega))|fail)
       have hvN : v = p.types.length := by omega
       subst hvN
       have hw3 : FA (pK p.types (aC p) j (jZ p.types.length R1 j)) (jZ p.types.length R2 ((aC p)[j]!.next[kk]!).toNat) (pJ p.types (aC p) j (kL p.types.length R1 j)) (kL p.types.length R2 ((aC p)[j]!.next[kk]!).toNat) = false := by assumption
       (apply bC (kk + 1,_,true);focus (refine Le.renF0 [(0,0),(2,2)] (R := ?qA3) (hF := ?qF3) (hz := ?qz3) (hm := ?qm3) (hn := ?qn3) (h1 := ?q13) (h2 := ?q23);(case qF3 => (repeat' (first|exact FamR.here|(apply FamR.cons;focus rfl))));(case qz3 => (rfl));(case qm3 => rfl);(case qn3 => decide);all_goals (repeat' (first|exact trivial|refine And.intro ⟨_,rfl,?_⟩ ?_|refine And.intro ⟨_,_,rfl,rfl,?_⟩ ?_|exact RnL.purI inferInstance|exact RnV.purI inferInstance|exact RnV.optr rfl|exact RnV.imm (pM (M := (aC p).length) (Nat.le_refl _) (by show aV + (zS _ _ _ _ _ _).length = _; rw [e7,hl2]))))))
       ·exact ⟨(by show kk + 1 ≤ (aC p)[j]!.next.length;omega),hS2.hit w (DF j (kk + 1)) hS1.d hjn hkn hw3,fun h => (by cases h)⟩
       ·show (aC p)[j]!.next.length - (kk + 1) < (aC p)[j]!.next.length - kk;omega
     ·(apply bC (kk + 1, R2, c2); focus (refine Le.renF0 [(0, 0), (2, 2)] (R := ?qA4) (hF := ?qF4) (hz := ?qz4) (hm := ?qm4) (hn := ?qn4) (h1 := ?q14) (h2 := ?q24); (case qF4 => (repeat' (first | exact FamR.here | (apply FamR.cons; focus rfl)))); (case qz4 => (rfl)); (case qm4 => rfl); (case qn4 => decide); all_goals (repeat' (first | exact trivial | refine And.intro ⟨_, rfl, ?_⟩ ?_ | refine And.intro ⟨_, _, rfl, rfl, ?_⟩ ?_ | exact RnL.purI inferInstance | exact RnV.purI inferInstance | exact RnV.optr rfl | exact RnV.imm (pM (M := (aC p).length) (Nat.le_refl _) (by show aV + R2.length = _; rw [hl2]))))))
      ·refine ⟨(by show kk + 1 ≤ (aC p)[j]!.next.length;omega),hS2.skip (i := j) (k := kk) hc2 (by assumption) (fun i' k' _ _ hd => by unfold DF at hd ⊢; omega),hc2⟩
      ·show (aC p)[j]!.next.length - (kk + 1) < (aC p)[j]!.next.length - kk;omega
    ·repeat' (first | refine aE ?_ | (refine aJ ?_ ?_ <;> intro hc hq <;> try (exfalso; omega))|fail)
     (apply bC (j + 1,R2,c2);focus (refine Le.renF0 [(0,0)] (R := ?qA5) (hF := ?qF5) (hz := ?qz5) (hm := ?qm5) (hn := ?qn5) (h1 := ?q15) (h2 := ?q25);(case qF5 => (repeat' (first|exact FamR.here|(apply FamR.cons;focus rfl))));(case qz5 => (rfl));(case qm5 => rfl);(case qn5 => decide);all_goals (repeat' (first|exact trivial|refine And.intro ⟨_,rfl,?_⟩ ?_|refine And.intro ⟨_,_,rfl,rfl,?_⟩ ?_|exact RnL.purI inferInstance|exact RnV.purI inferInstance|exact RnV.optr rfl|exact RnV.imm (pM (M := (aC p).length) (Nat.le_refl _) (by show aV + R2.length = _; rw [hl2]))))))
     ·refine ⟨(by show j + 1 ≤ (aC p).length; omega), hS2.mono fun i' k' _ hk' hd => ?_⟩
      unfold DF at hd ⊢
      by_cases e : i' = j
      ·subst e;omega
      ·omega
     ·show (aC p).length - (j + 1) < (aC p).length - j;omega
   ·repeat' (first | refine aE ?_ | (refine aJ ?_ ?_ <;> intro hc hq <;> try (exfalso; omega))|fail)
    (apply bC (R1,c1);focus (refine Le.renF0 [(0,0)] (R := ?qA6) (hF := ?qF6) (hz := ?qz6) (hm := ?qm6) (hn := ?qn6) (h1 := ?q16) (h2 := ?q26);(case qF6 => (repeat' (first|exact FamR.here|(apply FamR.cons;focus rfl))));(case qz6 => (rfl));(case qm6 => rfl);(case qn6 => decide);all_goals (repeat' (first|exact trivial|refine And.intro ⟨_,rfl,?_⟩ ?_|refine And.intro ⟨_,_,rfl,rfl,?_⟩ ?_|exact RnL.purI inferInstance|exact RnV.purI inferInstance|exact RnV.optr rfl|exact RnV.imm (pM (M := (aC p).length) (Nat.le_refl _) (by show aV + R1.length = _; rw [hl1]))))))
    ·exact (hS1.fin (by omega)).1
    ·exact (hS1.fin (by omega)).2
instance (s : List (List Bool) × List Bool) : Pur (Oo s):=⟨by show ((sl gL s.1).pur && ((sl cB s.2).pur && true)) = true;rw [a9,a9]; rfl⟩
def LP (ts : List Int) (pts : List Pnt) (Aa : List Nat) (i k : Nat) : List Iss := ((List.range k).filter (EY ts pts Aa i)).map (fun (v : Nat) => ⟨i,1,v⟩)
def Nn (pts : List Pnt) (cf : List Bool) (i k : Nat) : List Iss := ((List.range k).filter (fun (l : Nat) => cf[l]!)).map (fun (l : Nat) => ⟨i,IZ pts l,l⟩)
theorem KG {ts:List Int}{pts:List Pnt}{Aa:List Nat}{i k:Nat}(h:EY ts pts Aa i k = true):LP ts pts Aa i (k + 1) = LP ts pts Aa i k ++ [⟨i,1,k⟩]:=by
 unfold LP;rw [iJ,if_pos h,List.map_append]; rfl
theorem AM {ts:List Int}{pts:List Pnt}{Aa:List Nat}{i k:Nat}(h:EY ts pts Aa i k = false):LP ts pts Aa i (k + 1) = LP ts pts Aa i k:=by
 unfold LP;rw [iJ,if_neg (by rw [h]; decide),List.append_nil]
theorem C0 {pts:List Pnt}{cf:List Bool}{i k:Nat}(h:cf[k]! = true):Nn pts cf i (k + 1) = Nn pts cf i k ++ [⟨i,IZ pts k,k⟩]:=by
 unfold Nn;rw [iJ,if_pos h,List.map_append]; rfl
theorem Hb {pts:List Pnt}{cf:List Bool}{i k:Nat}(h:cf[k]! = false):Nn pts cf i (k + 1) = Nn pts cf i k:=by
 unfold Nn;rw [iJ,if_neg (by rw [h]; decide),List.append_nil]
theorem Eo (p:Prg) (f:Flows p.types (aC p)) (hs:aU p.body ≤ 1048576) (w:WG p.types (aC p)) (hr:Rch (aC p)):PC Tryz.prog 169 [bQ p,sl gL (dM p.types.length (aC p).length f.Al)] (fun r => r = sl fA f.iss):=by
 have hpl := w.pl
 have hp0 := w.p0
 have htl := w.tl
 have hfa := qJ p true f.Aa hs w hr (by unfold sG;exact f.ga)
 have hfm := qJ p false f.Am hs w hr (by unfold sG;exact f.gm)
 have hfl := zP p f.Af f.Ap hs w f.gf f.gp
 have hra := gG p.types.length (aC p).length f.Aa
 have hrm := gG p.types.length (aC p).length f.Am
 have hrl := gG p.types.length (aC p).length f.Al
 have hfll : ((List.range (aC p).length).map (g9 p.types.length (aC p).length f.Af f.Ap)).length = (aC p).length := by simp
 refine aB Tryz.func169 Tryz.ntmps169 ?_
 repeat' (first|(apply aF;first|(apply aA (k := 132);rfl;exact c6 p hs;exact Pur.pf;rfl)|(apply aA (k := 64) (d := 20);rfl;exact hfa;exact Pur.pf;rfl)|(apply aA (k := 64) (d := 22);rfl;exact hfm;exact Pur.pf;rfl)|(apply aA (k := 171);rfl;exact hfl;exact Pur.pf;rfl))|refine aE ?_|fail)
 refine aH (σ := Nat × List Iss × Nat) [1,2,6,7,8,9] [0] (fun s => [(10,iv (s.1 : Int)),(5,.own 1 0 s.2.2 3)]) (fun s => [(1,some (flat fA s.2.1))]) (fun s => s.1 ≤ (aC p).length ∧ s.2.1 = pO p.types (aC p) f.Aa f.Am f.Al f.Af f.Ap s.1 ∧ s.2.2 = s.2.1.length ∧ s.2.2 ≤ 67 * s.1) (fun s => (aC p).length - s.1) (0,[],0) ⟨Nat.zero_le _,rfl,rfl,Nat.le_refl _⟩ ?_
 rintro ⟨i,L,m⟩ ⟨hi,hL,hm,hmb⟩
 dsimp only at hi hL hm hmb
 try dsimp only
 by_cases hin : i < (aC p).length
 ·repeat' (first | refine aE ?_ | (refine aJ ?_ ?_ <;> intro hc hq <;> try (exfalso; omega))|fail)
  refine aH (σ := Nat × List Iss × Nat) [1,2,6,7,8,9,10] [0] (fun s => [(11,iv (s.1 : Int)),(5,.own 1 0 s.2.2 3)]) (fun s => [(1,some (flat fA s.2.1))]) (fun s => s.1 ≤ p.types.length ∧ s.2.1 = L ++ LP p.types (aC p) f.Aa i s.1 ∧ s.2.2 = s.2.1.length ∧ s.2.2 ≤ 67 * i + s.1) (fun s => p.types.length - s.1) (0,L,m) ⟨Nat.zero_le _,(List.append_nil L).symm,hm,hmb⟩ ?_
  rintro ⟨v,L2,m2⟩ ⟨hv,hL2,hm2,hmb2⟩
  dsimp only at hv hL2 hm2 hmb2
  try dsimp only
  by_cases hvn : v < p.types.length
  ·have hga := mW p.types.length (aC p).length f.Aa i v hin hvn
   have hgl : (dM p.types.length (aC p).length f.Aa)[i]!.length = p.types.length := by rw [gI _ _ _ _ hin]; simp
   repeat' (first|(apply aF;(apply aA (k := 173);rfl;(apply kW <;> (omega));exact Pur.pf;rfl))|refine aE ?_|(refine aJ ?_ ?_ <;> intro hc hq <;> try (exfalso;omega))|(refine bO ?_ ?_ <;> intro hg hq <;> try (exfalso;omega))|refine bI ?_|fail)
   ·(refine bC (v + 1, L2 ++ [⟨i, 1, v⟩], m2 + 1) (Le.renA [(0, 0), (1, 3)]) ?_ ?_)
    ·have hu : EY p.types (aC p) f.Aa i v = true := by
      unfold EY;rw [← hga,decide_eq_false (by assumption),(by assumption : (dM p.types.length (aC p).length f.Aa)[i]![v]! = false)]; rfl
     exact ⟨(by show v + 1 ≤ p.types.length;omega),(by show L2 ++ [⟨i,1,v⟩] = _; rw [hL2,List.append_assoc,← KG hu]),(by show m2 + 1 = (L2 ++ [_]).length;rw [List.length_append,List.length_singleton,hm2]),(by show m2 + 1 ≤ 67 * i + (v + 1);omega)⟩
    ·show p.types.length - (v + 1) < p.types.length - v;omega
   ·(refine bC (v + 1, L2, m2) (Le.renA [(0, 0), (1, 1)]) ?_ ?_)
    ·have hu : EY p.types (aC p) f.Aa i v = false := by
      unfold EY;rw [← hga,(by assumption : (dM p.types.length (aC p).length f.Aa)[i]![v]! = true)]; simp
     exact ⟨(by show v + 1 ≤ p.types.length;omega),(by show L2 = _; rw [AM hu]; exact hL2),hm2,(by show m2 ≤ 67 * i + (v + 1);omega)⟩
    ·show p.types.length - (v + 1) < p.types.length - v;omega
   ·(refine bC (v + 1, L2, m2) (Le.renA [(0, 0), (1, 1)]) ?_ ?_)
    ·have hu : EY p.types (aC p) f.Aa i v = false := by
      unfold EY;rw [decide_eq_true (by assumption)]; rfl
     exact ⟨(by show v + 1 ≤ p.types.length;omega),(by show L2 = _; rw [AM hu]; exact hL2),hm2,(by show m2 ≤ 67 * i + (v + 1);omega)⟩
    ·show p.types.length - (v + 1) < p.types.length - v;omega
  ·have hvN : v = p.types.length := by omega
   have hset := w.set i hin
   have hy := w.y i hin
   have hfi : ((List.range (aC p).length).map (g9 p.types.length (aC p).length f.Af f.Ap))[i]! = g9 p.types.length (aC p).length f.Af f.Ap i := bF _ _ _ hin
   have hgm : (dM p.types.length (aC p).length f.Am)[i]!.length = p.types.length := by rw [gI _ _ _ _ hin]; simp
   have hgl : (dM p.types.length (aC p).length f.Al)[i]!.length = p.types.length := by rw [gI _ _ _ _ hin]; simp
   have hf2 : (g9 p.types.length (aC p).length f.Af f.Ap i).2.length = (aC p).length := by simp [g9]
   have hf1 : (g9 p.types.length (aC p).length f.Af f.Ap i).1.length = p.types.length := by simp [g9]
   have hf3 : ∀ v, v < p.types.length → (g9 p.types.length (aC p).length f.Af f.Ap i).1[v]!.length = (g9 p.types.length (aC p).length f.Af f.Ap i).2.length := fun v hv => by
    rw [hf2]; unfold g9;dsimp only;rw [bF _ _ _ hv]; simp
   have hacc := y8 p.types (aC p)[i]! (dM p.types.length (aC p).length f.Am)[i]! htl hgm hset.1 hy
   have hlv := He p.types (aC p)[i]! ((List.range (aC p).length).map (g9 p.types.length (aC p).length f.Af f.Ap))[i]!.1 ((List.range (aC p).length).map (g9 p.types.length (aC p).length f.Af f.Ap))[i]!.2 (dM p.types.length (aC p).length f.Al)[i]! htl (by rw [hfi,hf2]; exact hpl) hgl (by rw [hfi]; exact hf1) (by rw [hfi]; exact hf3)
   have hlvl : (Fe p.types (aC p)[i]! ((List.range (aC p).length).map (g9 p.types.length (aC p).length f.Af f.Ap))[i]!.1 (dM p.types.length (aC p).length f.Al)[i]! ((List.range (aC p).length).map (g9 p.types.length (aC p).length f.Af f.Ap))[i]!.2.length).length = (aC p).length := by unfold Fe;rw [List.length_map,List.length_range,hfi,hf2]
   have hcn := uM (aC p) (jF p.types (aC p)[i]! (dM p.types.length (aC p).length f.Am)[i]![(aP (aC p)[i]!).toNat]!) ((List.range (aC p).length).map (g9 p.types.length (aC p).length f.Af f.Ap))[i]!.1 ((List.range (aC p).length).map (g9 p.types.length (aC p).length f.Af f.Ap))[i]!.2 (Fe p.types (aC p)[i]! ((List.range (aC p).length).map (g9 p.types.length (aC p).length f.Af f.Ap))[i]!.1 (dM p.types.length (aC p).length f.Al)[i]! ((List.range (aC p).length).map (g9 p.types.length (aC p).length f.Af f.Ap))[i]!.2.length) hpl (by have := Av p.types (aC p)[i]! (dM p.types.length (aC p).length f.Am)[i]![(aP (aC p)[i]!).toNat]!; omega) (by rw [hfi]; exact hf2) hlvl
   have hcf : Ml (aC p) (jF p.types (aC p)[i]! (dM p.types.length (aC p).length f.Am)[i]![(aP (aC p)[i]!).toNat]!) ((List.range (aC p).length).map (g9 p.types.length (aC p).length f.Af f.Ap))[i]!.2 (Fe p.types (aC p)[i]! ((List.range (aC p).length).map (g9 p.types.length (aC p).length f.Af f.Ap))[i]!.1 (dM p.types.length (aC p).length f.Al)[i]! ((List.range (aC p).length).map (g9 p.types.length (aC p).length f.Af f.Ap))[i]!.2.length) = I5 p.types (aC p) f.Am f.Al f.Af f.Ap i := by
    rw [hfi,hf2]; rfl
   have hcl : (I5 p.types (aC p) f.Am f.Al f.Af f.Ap i).length = (aC p).length := by unfold I5;rw [xF]
   repeat' (first|(apply aF;first|(apply aA (k := 175);rfl;exact hacc;exact Pur.pf;rfl)|(apply aA (k := 176);rfl;exact hlv;exact Pur.pf;rfl)|(apply aA (k := 174);rfl;exact hcn;exact Pur.pf;rfl)|(with_reducible apply aW (d := 14)))|refine aE ?_|(refine aJ ?_ ?_ <;> intro hc hq <;> try (exfalso;omega))|refine bI ?_|fail)
   refine bU ?_
   rw [hcf]
   repeat' (first|refine aE ?_|fail)
   refine aH (σ := Nat × List Iss × Nat) [1,2,6,7,8,9,10,13] [0] (fun s => [(14,iv (s.1 : Int)),(5,.own 1 0 s.2.2 3)]) (fun s => [(1,some (flat fA s.2.1))]) (fun s => s.1 ≤ (aC p).length ∧ s.2.1 = L2 ++ Nn (aC p) (I5 p.types (aC p) f.Am f.Al f.Af f.Ap i) i s.1 ∧ s.2.2 = s.2.1.length ∧ s.2.2 ≤ 67 * i + 6 + s.1) (fun s => (aC p).length - s.1) (0,L2,m2) ⟨Nat.zero_le _,(List.append_nil L2).symm,hm2,by show m2 ≤ 67 * i + 6 + 0;omega⟩ ?_
   rintro ⟨l,L3,m3⟩ ⟨hl,hL3,hm3,hmb3⟩
   dsimp only at hl hL3 hm3 hmb3
   try dsimp only
   by_cases hln : l < (aC p).length
   ·repeat' (first | refine aE ?_ | (refine aJ ?_ ?_ <;> intro hc hq <;> try (exfalso; omega))|fail)
    ·(refine bC (l + 1, L3, m3) (Le.renA [(0, 0), (1, 1)]) ?_ ?_)
     ·exact ⟨(by show l + 1 ≤ (aC p).length;omega),(by show L3 = _; rw [Hb (by assumption)]; exact hL3),hm3,(by show m3 ≤ 67 * i + 6 + (l + 1);omega)⟩
     ·show (aC p).length - (l + 1) < (aC p).length - l;omega
    ·(refine bC (l + 1, L3 ++ [⟨i, 3, l⟩], m3 + 1) (Le.renA [(0, 0), (1, 3)]) ?_ ?_)
     ·have hk : IZ (aC p) l = 3 := by unfold IZ; rw [if_pos (by assumption)]
      exact ⟨(by show l + 1 ≤ (aC p).length;omega),(by show L3 ++ [⟨i,3,l⟩] = _; rw [hL3,List.append_assoc,← hk,← C0 (by assumption)]),(by show m3 + 1 = (L3 ++ [_]).length;rw [List.length_append,List.length_singleton,hm3]),(by show m3 + 1 ≤ 67 * i + 6 + (l + 1);omega)⟩
     ·show (aC p).length - (l + 1) < (aC p).length - l;omega
    ·(refine bC (l + 1, L3 ++ [⟨i, 2, l⟩], m3 + 1) (Le.renA [(0, 0), (1, 3)]) ?_ ?_)
     ·have hk : IZ (aC p) l = 2 := by unfold IZ; rw [if_neg (by assumption)]
      exact ⟨(by show l + 1 ≤ (aC p).length;omega),(by show L3 ++ [⟨i,2,l⟩] = _; rw [hL3,List.append_assoc,← hk,← C0 (by assumption)]),(by show m3 + 1 = (L3 ++ [_]).length;rw [List.length_append,List.length_singleton,hm3]),(by show m3 + 1 ≤ 67 * i + 6 + (l + 1);omega)⟩
     ·show (aC p).length - (l + 1) < (aC p).length - l;omega
   ·repeat' (first | refine aE ?_ | (refine aJ ?_ ?_ <;> intro hc hq <;> try (exfalso; omega))|fail)
    (refine bC (i + 1,L3,m3) (Le.renA [(0,0),(1,1)]) ?_ ?_)
    ·refine ⟨(by show i + 1 ≤ (aC p).length; omega), ?_, hm3, (by show m3 ≤ 67 * (i + 1); omega)⟩
     show L3 = pO p.types (aC p) f.Aa f.Am f.Al f.Af f.Ap (i + 1)
     rw [mS,← B0 w f hin,hL3,hL2,hL,hvN,show l = (aC p).length by omega,List.append_assoc]
     rfl
    ·show (aC p).length - (i + 1) < (aC p).length - i;omega
 ·repeat' (first | refine aE ?_ | (refine aJ ?_ ?_ <;> intro hc hq <;> try (exfalso; omega))|fail)
  have hiN : i = (aC p).length := by omega
  refine aR (Le.frzD (d := 4) (i := 1) rfl rfl) ?_
  refine aD rfl ⟨?_,(by (exact a9 _ _))⟩
  simp only [aM]
  rw [hm,hL,hiN]; rfl
theorem Ij (p:Prg) (f:Flows p.types (aC p)) (hl:p.types.length ≤ 1048576) (hs:aU p.body ≤ 1048576):PC Tryz.prog 98 [bQ p] (fun r => r = sl fA (L9 p f)):=by
 unfold L9
 cases hv : bK p
 ·have hval := j6 p hl (by omega)
  rw [hv] at hval
  refine aB Tryz.func98 Tryz.ntmps98 ?_
  repeat' (first|(apply aF;first|(apply aA (k := 61);rfl;exact hval;exact Pur.pf;rfl)|(apply aL (t := _);rfl;rfl;rfl;(rfl);rfl;rfl))|refine aE ?_|fail)
  exact aD rfl ⟨rfl,rfl⟩
 ·have w := WG.of_valid hv
  have hr := Rch.of p
  have hval := j6 p hl (by omega)
  rw [hv] at hval
  have hlv := H9 p f.Al hs w f.gl
  have hck := Eo p f hs w hr
  refine aB Tryz.func98 Tryz.ntmps98 ?_
  repeat' (first|(apply aF;first|(apply aA (k := 61);rfl;exact hval;exact Pur.pf;rfl)|(apply aA (k := 170);rfl;exact hlv;exact Pur.pf;rfl)|(apply aA (k := 169);rfl;exact hck;exact Pur.pf;rfl))|refine aE ?_|refine bI ?_|fail)
  exact aD rfl ⟨rfl,(by (exact a9 _ _))⟩
def Lm (bs : List UInt8) (q : Int) : Int := ((bs[(q % (bs.length : Int)).toNat]!).toNat : Int) * 131 + ((bs[((q * 7 + 3) % (bs.length : Int)).toNat]!).toNat : Int) * 1117 + q * 29 + q / (bs.length : Int) * 53
def vJ (bs : List UInt8) (p : Nat) (n : Int) : Int :=
 if n < 1 then 0 else if (bs.length : Int) = 0 then 0 else
 if (p : Int) + 1 - 1 < (bs.length : Int) then ((bs[((p : Int) + 1 - 1).toNat]!).toNat : Int) % n
 else (((Lm bs ((p : Int) + 1 - 1)).toNat ^^^ (Lm bs ((p : Int) + 1 - 1) / 64).toNat : Nat) : Int) % n
theorem HH (bs:List UInt8) (p:Nat) (n:Int):0 ≤ vJ bs p n ∧ (vJ bs p n < n ∨ n < 1 ∧ vJ bs p n = 0):=by
 unfold vJ
 split
 ·omega
 ·split
  ·omega
  ·split
   ·exact ⟨Int.emod_nonneg _ (by omega),.inl (Int.emod_lt_of_pos _ (by omega))⟩
   ·exact ⟨Int.emod_nonneg _ (by omega),.inl (Int.emod_lt_of_pos _ (by omega))⟩
def st (op x y n : Int) : AL.Stmt := .mk op x y n [] []
theorem k3 (bs:List UInt8) (p:Nat):(vJ bs p 3).toNat ≤ 2 := by have := HH bs p 3;omega
attribute [local irreducible] vJ
end Go.Proofs.YtahdccneecdmmaaGreat
namespace Go.Proofs.YtahdccneecdmmaaGreat
open Go.AL Go.RowKit
variable {N : Nat} {Q : Exit → AS → Prop} {all : Array Oper} {rest : List Oper} {tsl : List (Nat × AV)} {hsl : List (Nat × Option (List AV))} {nidl : Nat} {z0 : Lo} {md : Md} {d : Nat} {ty : TypeId} {pos : String} {af : Array Edge} {tys : Array TypeId}
theorem Fs (p:Prg) (hv:bK p = false) (hl:p.types.length ≤ 1048576) (hs:aU p.body ≤ 1048576):PC Tryz.prog 98 [bQ p] (fun r => r = sl fA []):=by
 have hval := j6 p hl (by omega)
 rw [hv] at hval
 refine aB Tryz.func98 Tryz.ntmps98 ?_
 repeat' (first|(apply aF;first|(apply aA (k := 61);rfl;exact hval;exact Pur.pf;rfl)|(apply aL (t := _);rfl;rfl;rfl;(rfl);rfl;rfl))|refine aE ?_|fail)
 exact aD rfl ⟨rfl,rfl⟩
instance : Eq3 Tryz.prog 55 where
 g := Tryz.eqGuardType55
 e := fun a b c a' b' c' w => by
  have u3 := Tryz.underlying3
  have a3 := Tryz.isAgg3
  have z3 := Tryz.sizeOf3
  have hS : Tryz.prog.underlying 55 = some (.struct (Tryz.prog.fieldsOf 55)) := by kernel_rfl
  have hp : Tryz.prog.stoodInHeld 55 = false := by kernel_rfl
  rw [show (10000 : Nat) = 9999 + 1 from rfl,run_equalIn_agg w 9999 55 _ _ hS hp]
  simp only [Program.fieldsOf,Tryz.underlying55]
  go_simp
  by_cases h1 : a = a' <;> by_cases h2 : b = b' <;> by_cases h3 : c = c' <;> simp [h1,h2,h3]
theorem qC (p:Prg) (hl:p.types.length ≤ 1048576) (hs:aU p.body ≤ 1048576):PC Tryz.prog 151 [bQ p] (fun r => r = sl bZ (if bK p = true then aC p else [])):=by
 have hval := j6 p hl (by omega)
 have h2 := c6 p hs
 refine aB Tryz.func151 Tryz.ntmps151 ?_
 repeat' (first|(apply aF;first|(apply aA (k := 61);rfl;exact hval;exact Pur.pf;rfl)|(apply aA (k := 132);rfl;exact h2;exact Pur.pf;rfl)|(apply aL (t := _);rfl;rfl;rfl;(rfl);rfl;rfl))|refine aE ?_|(refine aJ ?_ ?_ <;> intro hc hq <;> try (exfalso;omega))|fail)
 ·refine aD rfl ⟨?_, (by (rfl))⟩
  rw [if_neg (by simp [hq])]; rfl
 ·refine aD rfl ⟨?_, (by (exact a9 _ _))⟩
  rw [if_pos hq]; rfl
theorem MM {xs:List Int}{m:Nat}{x0:Operand}{i0:Nat}(ha0:ev (lk tsl) x0 = some (.own i0 0 m 1)) (hH0:aO hsl i0 = some (flat cI xs)) (hmc:MC Tryz.prog 160 [.own 0 0 m 1] [(0,some (flat cI xs))] 1 (fun _:Unit => True) (fun _ => .tup []) (fun _ => [(0,some (flat cI xs.reverse))])) (hM:Nat.ble (nidl + 0) aV = true) (hN:Nat.blt d N = true){md':Md}[hmd:MdA md (fU [x0] ++ [.inr i0]) (List.map Sum.inr (List.map Prod.fst ([(i0,some (flat cI xs.reverse))]:List (Nat × Option (List AV)))) ++ [.inl d]) md'] (kk:RW Tryz.prog N all Q md' rest ⟨(d,.tup []) :: tsl,hO hsl [(i0,some (flat cI xs.reverse))],nidl + 0,z0⟩):RW Tryz.prog N all Q md (⟨some d,.call ⟨.value (.func 160),#[x0],tys⟩,ty,pos,af,none⟩ :: rest) ⟨tsl,hsl,nidl,z0⟩:=by
 exact aZ (l := [x0]) [i0] 1 [(i0,some (flat cI xs.reverse))] hmc (avs := [.own i0 0 m 1]) (by simp only [evL,ha0]) rfl hM hN (md' := md') (hmd := hmd) kk
theorem N4 (xs:List Int) (m:Nat) (hm:m = xs.length) (hl:xs.length ≤ 1048576):MC Tryz.prog 160 [.own 0 0 m 1] [(0,some (flat cI xs))] 1 (fun _:Unit => True) (fun _ => .tup []) (fun _ => [(0,some (flat cI xs.reverse))]):=by
 subst hm
 refine aX Tryz.func160 Tryz.ntmps160 ?_
 repeat' (first|refine aE ?_|fail)
 refine aH (σ := Nat × List Int × Int) [0] [] (fun k => [(2,iv (k.1 : Int)),(3,iv k.2.2)]) (fun k => [(0,some (flat cI k.2.1))]) (fun k => 2 * k.1 ≤ xs.length ∧ k.2.1.length = xs.length ∧ (∀ l,l < xs.length → k.2.1[l]! = if l < k.1 ∨ xs.length ≤ l + k.1 then xs[xs.length - 1 - l]! else xs[l]!) ∧ k.2.2 = (xs.length : Int) - 1 - (k.1 : Int)) (fun k => xs.length - k.1) (0,xs,(xs.length : Int) - 1) ⟨by omega,rfl,fun l hl => by rw [if_neg (by omega)],by simp⟩ ?_
 rintro ⟨k,u,z⟩ ⟨hk,hul,hu,hz⟩
 dsimp only at hk hul hu hz
 try dsimp only
 repeat' (first|refine aE ?_|(refine aJ ?_ ?_ <;> intro hc hq <;> try (exfalso;omega))|refine bI ?_|fail)
 ·(refine bC (k + 1, _, _) (Le.renA []) ?_ ?_)
  ·dsimp only
   refine ⟨by omega,by rw [List.length_set,List.length_set]; exact hul,fun l hl => ?_,by omega⟩
   have h1 := hu l hl
   have h2 := hu k (by omega)
   have h3 := hu z.toNat (by omega)
   have e1 : xs.length - 1 - k = z.toNat := by omega
   have e2 : xs.length - 1 - z.toNat = k := by omega
   rw [if_neg (by omega)] at h2 h3
   rw [aQ,aQ,List.length_set]
   by_cases q1 : z.toNat = l
   ·rw [if_pos ⟨q1,by omega⟩,if_pos (by omega),h2,← q1,e2]
   ·rw [if_neg (by omega)]
    by_cases q2 : k = l
    ·rw [if_pos ⟨q2,by omega⟩,if_pos (by omega),h3,← q2,e1]
    ·rw [if_neg (by omega), h1]
     by_cases q3 : l < k ∨ xs.length ≤ l + k
     ·rw [if_pos q3,if_pos (by omega)]
     ·rw [if_neg q3,if_neg (by omega)]
  ·dsimp only;omega
 ·refine x9 (l := []) rfl ?_
  refine aT () trivial rfl ⟨sE ?_,trivial⟩
  have e : u = xs.reverse := bG (by rw [List.length_reverse, hul]) fun l hl => by
   rw [hul] at hl
   rw [hu l hl,aS xs.reverse l (by simpa using hl),List.getElem_reverse,← aS]
   split
   ·rfl
   ·congr 1;omega
  rw [e]
theorem Km {m:Nat}{x0 x1:Operand}(ha0:ev (lk tsl) x0 = some (.v (.slice none 0 0))) (ha1:ev (lk tsl) x1 = some (iv (m:Int))) (hmc:MC Tryz.prog 161 [.v (.slice none 0 0),iv (m:Int)] [] 0 (fun _:Unit => True) (fun _ => .own 0 0 0 1) (fun _ => [(0,some (flat cI ([]:List Int)))])) (hM:Nat.ble (nidl + 1) aV = true) (hN:Nat.blt d N = true){md':Md}[hmd:MdA md (fU [x0,x1] ++ []) (List.map Sum.inr (List.map Prod.fst ([(nidl,some (flat cI ([]:List Int)))]:List (Nat × Option (List AV)))) ++ [.inl d]) md'] (kk:RW Tryz.prog N all Q md' rest ⟨(d,.own nidl 0 0 1) :: tsl,hO hsl [(nidl,some (flat cI ([]:List Int)))],nidl + 1,z0⟩):RW Tryz.prog N all Q md (⟨some d,.call ⟨.value (.func 161),#[x0,x1],tys⟩,ty,pos,af,none⟩ :: rest) ⟨tsl,hsl,nidl,z0⟩:=by
 exact aZ (l := [x0,x1]) [] 1 [(nidl,some (flat cI ([] : List Int)))] hmc (avs := [.v (.slice none 0 0),iv (m : Int)]) (by simp only [evL,ha0,ha1]) rfl hM hN (md' := md') (hmd := hmd) kk
theorem MF (m:Nat) (hm:m ≤ 1048576):MC Tryz.prog 161 [.v (.slice none 0 0),iv (m:Int)] [] 0 (fun _:Unit => True) (fun _ => .own 0 0 0 1) (fun _ => [(0,some (flat cI ([]:List Int)))]):=by
 refine aX Tryz.func161 Tryz.ntmps161 ?_
 repeat' (first|(apply aF;first|(apply EV;rfl;rfl)|(apply F5 (m := m) (k' := .i64);kernel_rfl;rfl;rfl;omega;rfl;rfl;omega;omega;omega;rfl;rfl)|(apply tH (h := 0);rfl;rfl;(rfl);omega;rfl)|(apply Bw;rfl;rfl;rfl))|refine aE ?_|(refine aJ ?_ ?_ <;> intro hc hq <;> try (exfalso;omega))|fail)
 ·
  refine aR (Le.cut (i := 0) 0 rfl) ?_
  refine aD rfl ?_
  refine aT () trivial ?_ ⟨sE ?_,trivial⟩
  all_goals first|rfl|exact congrArg some (List.take_zero)
 ·refine aR (Le.nilOwn (d := 4) 1 ?_ ?_) ?_
  ·rfl
  ·decide
  refine aD rfl ?_
  refine aT () trivial ?_ ⟨sE ?_,trivial⟩
  all_goals rfl
theorem It (Ls:List (List Int)) (hn:Ls.length ≤ 1000) (hl:Ls.flatten.length ≤ 1048576):PC Tryz.prog 90 [sl OB Ls] (fun r => r = sl cI Ls.flatten):=by
 have hpre : ∀ k, (Ls.take k).flatten.length ≤ 1048576 := fun k => by
  have : Ls.flatten = (Ls.take k).flatten ++ (Ls.drop k).flatten := by rw [← List.flatten_append,List.take_append_drop]
  rw [this,List.length_append] at hl;omega
 have hst : ∀ k,k < Ls.length → (Ls.take (k + 1)).flatten = (Ls.take k).flatten ++ Ls[k]! := fun k hk => by rw [b0 _ _ hk]; simp
 refine aB Tryz.func90 Tryz.ntmps90 ?_
 repeat' (first|refine aE ?_|fail)
 refine aH (σ := Nat × Int) [0,9,10] [] (fun k => [(11,iv (k.1 : Int)),(3,iv k.2)]) (fun k => []) (fun k => k.1 ≤ Ls.length ∧ k.2 = ((Ls.take k.1).flatten.length : Int)) (fun k => Ls.length - k.1) (0,0) ⟨by omega,rfl⟩ ?_
 rintro ⟨k,z⟩ ⟨hk,hz⟩
 dsimp only at hk hz
 try dsimp only
 have hz2 := hpre k
 by_cases hkn : k < Ls.length
 ·have h1 := hst k hkn
  have h2 := hpre (k + 1)
  rw [h1,List.length_append] at h2
  repeat' (first|refine aE ?_|(refine aJ ?_ ?_ <;> intro hc hq <;> try (exfalso;omega))|fail)
  (refine bC (k + 1,_) (Le.renA []) ?_ ?_)
  ·exact ⟨by dsimp only;omega,by dsimp only;rw [h1,List.length_append]; omega⟩
  ·dsimp only;omega
 ·obtain ⟨z', rfl⟩ : ∃ z' : Nat, z = (z' : Int) := ⟨_, hz⟩
  repeat' (first|(apply aF;(apply Km;rfl;rfl;(apply MF <;> (omega));rfl;rfl))|refine aE ?_|(refine aJ ?_ ?_ <;> intro hc hq <;> try (exfalso;omega))|fail)
  refine aH (σ := Nat × List Int × Nat) [25,26] [] (fun k => [(27,iv (k.1 : Int)),(6,.own 0 0 k.2.2 1)]) (fun k => [(0,some (flat cI k.2.1))]) (fun k => k.1 ≤ Ls.length ∧ k.2.1 = (Ls.take k.1).flatten ∧ k.2.2 = k.2.1.length) (fun k => Ls.length - k.1) (0,[],0) ⟨by omega,rfl,rfl⟩ ?_
  rintro ⟨k,u,m⟩ ⟨hk,hu,hm⟩
  dsimp only at hk hu hm
  try dsimp only
  have hu2 := hpre k
  rw [← hu] at hu2
  by_cases hkn : k < Ls.length
  ·have h1 := hst k hkn
   have h2 := hpre (k + 1)
   rw [h1,List.length_append,← hu] at h2
   repeat' (first|(apply aF;(apply bS;rfl;rfl;rfl;rfl;rfl;(rw [aI]; omega);(exact tJ (by (rfl)));omega;omega;(exact oC (by (assumption)));rfl;rfl))|refine aE ?_|(refine aJ ?_ ?_ <;> intro hc hq <;> try (exfalso;omega))|fail)
   (refine bC (k + 1,_,_) (Le.renA [(0,1)]) ?_ ?_)
   ·exact ⟨by dsimp only;omega,by dsimp only;rw [h1,hu],by dsimp only;rw [List.length_append]; omega⟩
   ·dsimp only;omega
  ·repeat' (first | refine aE ?_ | (refine aJ ?_ ?_ <;> intro hc hq <;> try (exfalso; omega))|fail)
   refine aR (Le.frzD (d := 2) (i := 0) rfl rfl) ?_
   refine aD rfl ⟨?_,(by (exact a9 _ _))⟩
   have e : u = Ls.flatten := by rw [hu,show k = Ls.length by omega,List.take_length]
   rw [← e]
   simp only [aM,sl,hm]
theorem KP (A l:Nat):decide (((A >>> l &&& 1:Nat):Int) = 1) = A.testBit l:=by
 rw [Nat.testBit,Nat.and_comm]
 by_cases h : 1 &&& A >>> l = 1
 ·rw [h]; rfl
 ·have := Nat.and_le_left (n := 1) (m := A >>> l)
  have h0 : 1 &&& A >>> l = 0 := by omega
  rw [h0]; rfl
theorem LK {Af:List Nat}{n i v:Nat}(hA:Af.length = n * 6) (hi:i < n) (hv:v < 6):(List.drop (v * 1) (flat cW (Af.drop (i * 6))))[0]? = some (.v (.int .u64 ((cY Af i)[v]!:Nat))):=by
 rw [eY hA hi hv,Nat.mul_one]
 have e : flat cW (Af.drop (i * 6)) = (Af.drop (i * 6)).map (fun (x : Nat) => AV.v (.int .u64 (x : Int))) := by
  generalize Af.drop (i * 6) = l
  induction l with
  | nil => rfl
  | cons a l ih => rw [List.map_cons,← ih]; rfl
 rw [e,List.getElem?_drop,List.getElem?_map,List.getElem?_drop,Nat.add_zero,List.getElem?_eq_getElem (by omega),aS Af _ (by omega)]; rfl
theorem zR (v:Int) (n:Nat) (Af:List Nat) (i loan:Int) (hA:Af.length = n * 6) (hv:0 ≤ v ∧ v < 6) (hi:0 ≤ i ∧ i < n) (hl:0 ≤ loan ∧ loan < 62) (hs:∀ z:Nat,Sm (cY Af i.toNat)[z]!) :
  PC Tryz.prog 159 [iv v,.iptr [.imm n (flat cW Af)],.iptr [iv i],.iptr [iv loan]] (fun r => r = bv ((cY Af i.toNat)[v.toNat]!.testBit loan.toNat)) := by
 have hsv := hs v.toNat
 refine aB Tryz.func159 Tryz.ntmps159 ?_
 repeat' (first|(apply aF;(apply Bf;rfl;rfl;exact LK hA (by omega) (by omega);rfl))|refine aE ?_|refine bI ?_|fail)
 refine aD rfl ⟨?_,rfl⟩
 exact congrArg bv (KP _ _)
def Oc (U : Int → Bool) (xs : List Int) : Int := match xs.findIdx? U with | some i => i | none => -1
def u1 (Af : List Nat) (i loan : Int) (v : Int) : Bool := (cY Af i.toNat)[v.toNat]!.testBit loan.toNat
theorem LQ (xs:List Int) (n:Nat) (Af:List Nat) (i loan:Int) (hxl:xs.length ≤ 1000) (hx:∀ v ∈ xs,0 ≤ v ∧ v < 6) (hA:Af.length = n * 6) (hi:0 ≤ i ∧ i < n) (hl:0 ≤ loan ∧ loan < 62) (hs:∀ z:Nat,Sm (cY Af i.toNat)[z]!) :
  PC Tryz.prog 216 [sl cI xs,.clos (.func 159) [] [.iptr [.imm n (flat cW Af)],.iptr [iv i],.iptr [iv loan]]] (fun r => r = iv (Oc (u1 Af i loan) xs)) := by
 refine aB Tryz.func216 Tryz.ntmps216 ?_
 repeat' (first|refine aE ?_|fail)
 refine aH (σ := Nat) [0,1,7] [] (fun k => [(8,iv (k : Int))]) (fun k => []) (fun k => k ≤ xs.length ∧ ∀ j,j < k → u1 Af i loan xs[j]! = false) (fun k => xs.length - k) (0) ⟨by omega,by omega⟩ ?_
 intro k ⟨hk,hall⟩
 by_cases hkn : k < xs.length
 ·have hv := hx _ (aN xs k hkn)
  have hcl := zR xs[k]! n Af i loan hA hv hi hl hs
  have hu : (cY Af i.toNat)[(xs[k]!).toNat]!.testBit loan.toNat = u1 Af i loan xs[k]! := rfl
  rw [hu] at hcl
  cases hb : u1 Af i loan xs[k]!
  ·rw [hb] at hcl
   repeat' (first|(apply aF;(apply fW;rfl;rfl;infer_instance;rfl;(apply hcl);exact Pur.pf;rfl))|refine aE ?_|(refine aJ ?_ ?_ <;> intro hc hq <;> try (exfalso;omega))|fail)
   (refine bC (k + 1) (Le.renA []) ?_ ?_)
   ·refine ⟨by omega, fun j hj => ?_⟩
    by_cases e : j = k
    ·subst e;exact hb
    ·exact hall j (by omega)
   ·omega
  ·rw [hb] at hcl
   repeat' (first|(apply aF;(apply fW;rfl;rfl;infer_instance;rfl;(apply hcl);exact Pur.pf;rfl))|refine aE ?_|(refine aJ ?_ ?_ <;> intro hc hq <;> try (exfalso;omega))|fail)
   refine aD rfl ⟨?_,rfl⟩
   have : xs.findIdx? (u1 Af i loan) = some k := by
    rw [List.findIdx?_eq_some_iff_getElem]
    refine ⟨hkn,by rw [← aS xs k hkn]; exact hb,fun j hj => ?_⟩
    have := hall j hj;rw [aS xs j (by omega)] at this;rw [this]; decide
   simp only [Oc,this]; rfl
 ·repeat' (first | refine aE ?_ | (refine aJ ?_ ?_ <;> intro hc hq <;> try (exfalso; omega))|fail)
  refine aD rfl ⟨?_,rfl⟩
  have : xs.findIdx? (u1 Af i loan) = none := by
   rw [List.findIdx?_eq_none_iff]
   intro x hx
   obtain ⟨j,hj,rfl⟩ := List.getElem_of_mem hx
   have := hall j (by omega);rw [aS xs j hj] at this;exact this
  simp only [Oc,this]; rfl
theorem LR (U:Int → Bool) (xs:List Int):decide (0 ≤ Oc U xs) = xs.any U:=by
 unfold Oc
 split
 ·rename_i i h
  obtain ⟨h1,h2,_⟩ := List.findIdx?_eq_some_iff_getElem.1 h
  rw [List.any_eq_true.2 ⟨xs[i],List.getElem_mem h1,h2⟩]; simp
 ·rename_i h
  rw [List.findIdx?_eq_none_iff] at h
  have : xs.any U = false := by rw [List.any_eq_false]; intro x hx;rw [h x hx]; decide
  rw [this]; rfl
theorem JT (xs:List Int) (n:Nat) (Af:List Nat) (i loan:Int) (hxl:xs.length ≤ 1000) (hx:∀ v ∈ xs,0 ≤ v ∧ v < 6) (hA:Af.length = n * 6) (hi:0 ≤ i ∧ i < n) (hl:0 ≤ loan ∧ loan < 62) (hs:∀ z:Nat,Sm (cY Af i.toNat)[z]!) :
  PC Tryz.prog 157 [sl cI xs,.clos (.func 159) [] [.iptr [.imm n (flat cW Af)],.iptr [iv i],.iptr [iv loan]]] (fun r => r = bv (xs.any (u1 Af i loan))) := by
 have hix := LQ xs n Af i loan hxl hx hA hi hl hs
 refine aB Tryz.func157 Tryz.ntmps157 ?_
 repeat' (first|(apply aF;(apply aA (k := 216);rfl;exact hix;exact Pur.pf;rfl))|refine aE ?_|fail)
 refine aD rfl ⟨?_,rfl⟩
 exact congrArg bv (LR _ _)
theorem Lu (n:Nat):flat cN (List.replicate n 0) = flat cI (List.replicate n (0:Int)):=by
 induction n with
 | zero => rfl
 | succ n ih => rw [List.replicate_succ,List.replicate_succ]; show cN 0 ++ flat cN _ = cI 0 ++ flat cI _; rw [ih]; rfl
theorem gD (ts:List Int) (bd:List AL.Stmt) (pts:List Pnt) (f t:Nat) (w:WG ts pts) (hf:f < pts.length) (ht:t < pts.length) :
  PC Tryz.prog 89 [aG ts bd pts,iv (f : Int),iv (t : Int)] (fun r => r = .tup [sl cI (dS (dP pts f t)),bv (decide (0 ≤ gW (mF pts f) t))]) := by
 have hpl := w.pl
 have hbe : ∀ h,BI pts f (jQ pts f h) := nI w.nx hf
 refine aB Tryz.func89 Tryz.ntmps89 ?_
 repeat' (first|refine aE ?_|fail)
 rw [Lu]
 refine aH (σ := Nat × List Int) [0,1,2,8,23] [] (fun k => [(24,iv (k.1 : Int))]) (fun k => [(0,some (flat cI k.2))]) (fun k => k.1 ≤ pts.length ∧ k.2.length = pts.length ∧ (∀ l,l < k.1 → k.2[l]! = -1)) (fun k => pts.length - k.1) (0,List.replicate pts.length 0) ⟨by omega,by simp,by omega⟩ ?_
 rintro ⟨k,u⟩ ⟨hk,hul,hu⟩
 dsimp only at hk hul hu
 try dsimp only
 by_cases hkn : k < pts.length
 ·repeat' (first | refine aE ?_ | (refine aJ ?_ ?_ <;> intro hc hq <;> try (exfalso; omega))|fail)
  (refine bC (k + 1,_) (Le.renA [(0,0)]) ?_ ?_)
  ·refine ⟨by omega, by dsimp only; rw [List.length_set]; exact hul, fun l hl => ?_⟩
   dsimp only at hl ⊢
   rw [aQ]
   by_cases e : k = l
   ·rw [if_pos ⟨e,by omega⟩]
   ·rw [if_neg (by omega)]; exact hu l (by omega)
  ·dsimp only;omega
 ·repeat' (first | refine aE ?_ | (refine aJ ?_ ?_ <;> intro hc hq <;> try (exfalso; omega))|fail)
  have hbk0 : u = uJ pts.length [] := bG (by rw [fY,hul]) fun l hl => by rw [hu l (by omega),gQ (by omega)]; rfl
  subst hbk0
  refine aH (σ := Nat × List (Nat × Nat) × List Int × Nat) [0,1,2,8] [] (fun s => [(10,.own 1 0 s.2.2.2 1)]) (fun s => [(0,some (flat cI (uJ pts.length s.2.1))),(1,some (flat cI s.2.2.1))]) (fun s => s.2.1 = jQ pts f s.1 ∧ s.2.2.1 = fE f s.2.1 s.1 ∧ s.2.2.2 = s.2.2.1.length ∧ s.1 ≤ s.2.1.length + 1 ∧ (0 ≤ gW s.2.1 t → 0 < s.2.2.2)) (fun s => pts.length + 1 - s.1) (0,[],[(f : Int)],1) ⟨rfl,rfl,rfl,by dsimp only;omega,fun h => by dsimp only;omega⟩ ?_
  rintro ⟨h,E,T,m⟩ ⟨hE,hT,hm,hh,hmt⟩
  dsimp only at hE hT hm hh hmt
  try dsimp only
  have I := hbe h
  rw [← hE] at I
  have hle := I.le w.nx
  have hbt : (uJ pts.length E)[t]! = gW E t := gQ ht
  have hbl := fY pts.length E
  by_cases hlk : gW E t < 0
  by_cases hgo : 0 < T.length
  ·have hlt : h < (kA f E).length := by
    have := mU f E h;rw [fQ]; rw [← hT] at this;omega
   have hcons := s8 hlt
   have hqo := CJ hlt
   obtain ⟨a,ha⟩ : ∃ a,a = (kA f E)[h]! := ⟨_,rfl⟩
   rw [← ha] at hcons hqo
   have hal : a < pts.length := by
    rcases hqo with e|e
    ·rw [e]; exact hf
    ·obtain ⟨x,hx,e⟩ := List.mem_map.1 e;rw [← e]; exact (hle.2 x hx).1
   rw [hcons] at hT
   subst hT
   simp only [List.length_cons] at hm
   repeat' (first|(apply aF;first|(with_reducible apply aW (d := 10))|(apply nT;rfl;rfl;omega;rfl))|refine aE ?_|(refine aJ ?_ ?_ <;> intro hc hq <;> try (exfalso;omega))|(refine bO ?_ ?_ <;> intro hg hq <;> try (exfalso;omega))|fail)
   refine bU (cX ?_ (Le.mvO (d := 47) (i := 1) rfl rfl (by simp [aI]) (by decide)))
   have hnl := w.nl a hal
   have hpop : fE f E (h + 1) = fE f (iY E a (pts[a]!.next.take 0)) (h + 1) := rfl
   have hnk := w.nx a hal
   have hek : ∀ k,BI pts f (iY E a (pts[a]!.next.take k)) := fun k => xV _ _ I hqo (fun z hz => ⟨hal,by have := hnk z (List.mem_of_mem_take hz);rw [Int.toNat_of_nonneg this.1]; exact List.mem_of_mem_take hz⟩)
   repeat' (first|refine aE ?_|fail)
   refine aH (σ := Nat × List (Nat × Nat) × List Int × Nat) [0,1,2,8,55,56] [] (fun s => [(57,iv (s.1 : Int)),(11,iv (a : Int)),(10,.own 2 0 s.2.2.2 1)]) (fun s => [(0,some (flat cI (uJ pts.length s.2.1))),(2,some (flat cI s.2.2.1))]) (fun s => s.1 ≤ pts[a]!.next.length ∧ s.2.1 = iY E a (pts[a]!.next.take s.1) ∧ s.2.2.1 = fE f s.2.1 (h + 1) ∧ s.2.2.2 = s.2.2.1.length) (fun s => pts[a]!.next.length - s.1) (0,E,fE f E (h + 1),m - 1) ⟨by omega,rfl,hpop,by dsimp only;omega⟩ ?_
   rintro ⟨k,E2,T2,m2⟩ ⟨hk,hE2,hT2,hm2⟩
   dsimp only at hk hE2 hT2 hm2
   try dsimp only
   have I2 := hek k
   rw [← hE2] at I2
   have hle2 := I2.le w.nx
   have hbl2 := fY pts.length E2
   have htl2 := mU f E2 (h + 1)
   rw [← hT2] at htl2
   by_cases hkn : k < pts[a]!.next.length
   ·have hz := hnk _ (aN _ _ hkn)
    have hbz : (uJ pts.length E2)[(pts[a]!.next[k]!).toNat]! = gW E2 (pts[a]!.next[k]!).toNat := gQ (by omega)
    have hsu := vV E a pts[a]!.next k hkn
    rw [← hE2] at hsu
    have hql : h + 1 ≤ (kA f E2).length := by
     have h1 := gU a (pts[a]!.next.take k) E
     rw [← hE2] at h1
     have := h1.length_le
     rw [fQ] at hlt ⊢; omega
    by_cases hlz : gW E2 (pts[a]!.next[k]!).toNat < 0
    ·repeat' (first | (apply aF; (apply aL (t := _);rfl;rfl;rfl;exact (rfl:_=some [_]);rfl;rfl)) | refine aE ?_ | (refine aJ ?_ ?_ <;> intro hc hq <;> try (exfalso; omega))|fail)
     rw [w7 hlz (by omega)]
     (refine bC (k + 1,_,_,_) (Le.renA [(0,0),(2,4)]) ?_ ?_)
     ·refine ⟨by dsimp only;omega,by dsimp only;rw [hsu,xO hlz],by dsimp only;rw [vB hql,hT2,Int.toNat_of_nonneg hz.1],by dsimp only;rw [List.length_append]; simp;omega⟩
     ·dsimp only;omega
    ·repeat' (first | refine aE ?_ | (refine aJ ?_ ?_ <;> intro hc hq <;> try (exfalso; omega))|fail)
     (refine bC (k + 1,E2,T2,m2) (Le.renA [(0,0),(2,2)]) ?_ ?_)
     ·refine ⟨by dsimp only;omega,by dsimp only;rw [hsu,DO (by omega)],hT2,hm2⟩
     ·dsimp only;omega
   ·repeat' (first | refine aE ?_ | (refine aJ ?_ ?_ <;> intro hc hq <;> try (exfalso; omega))|fail)
    have hkl : k = pts[a]!.next.length := by omega
    rw [hkl,List.take_length] at hE2
    have hpre : E <+: E2 := by rw [hE2]; exact gU _ _ _
    have hple := hpre.length_le
    rw [fQ] at hlt
    (refine bC (h + 1,E2,T2,m2) (Le.renA [(0,0),(1,2)]) ?_ ?_)
    ·refine ⟨?_, hT2, hm2, by dsimp only; omega, fun hl => ?_⟩
     ·dsimp only;rw [hE2,jQ,← hE,if_pos (by rw [fQ]; exact hlt),← ha]
     ·dsimp only at hl ⊢
      have : E.length ≠ E2.length := fun e => by
       have := hpre.eq_of_length e
       rw [this] at hlk;omega
      omega
    ·dsimp only;omega
  ·have hT0 : T = [] := List.eq_nil_of_length_eq_zero (by omega)
   have hee : E = mF pts f := by
    rw [hE]; exact DR w.nx hf (by rw [← hE]; rw [hT] at hT0;exact vD.1 hT0)
   have hm0 : m = 0 := by omega
   repeat' (first|refine aE ?_|(refine aJ ?_ ?_ <;> intro hc hq <;> try (exfalso;omega))|(refine bO ?_ ?_ <;> intro hg hq <;> try (exfalso;omega))|fail)
   (refine aR (Le.nilImm (d := 6) rfl) ?_; refine aD rfl ?_)
   refine ⟨?_,(by (rfl))⟩
   have e1 : dP pts f t = [] := by unfold dP;rw [← hee,if_neg (by omega)]
   rw [e1,← hee,decide_eq_false (by omega)]
   rfl
  ·have hm1 := hmt (by omega)
   repeat' (first|refine aE ?_|(refine aJ ?_ ?_ <;> intro hc hq <;> try (exfalso;omega))|(refine bO ?_ ?_ <;> intro hg hq <;> try (exfalso;omega))|fail)
   have hwt : pts.length ≤ 61 := hpl
   have hlk0 : 0 ≤ gW E t := by omega
   have hpre : E <+: mF pts f := by rw [hE]; exact DG (h := h) (by omega)
   obtain ⟨_,a0,R0,hx0,hcs0⟩ := CS.start w.nx hf hpre hlk0
   have hen : gW (mF pts f) t = gW E t := (xP (f := f) hpre (hbe _).nd (eH.1 hlk0)).2
   have hbt0 : (uJ pts.length E)[t]! = (a0 : Int) := by rw [hbt,hx0]
   rw [hbt0]
   refine aH (σ := Nat × List (Nat × Nat) × List Int × Nat) [1,8] [0] (fun s => [(15,iv (s.1 : Int)),(14,.own 2 0 s.2.2.2 1)]) (fun s => [(2,some (flat cI s.2.2.1))]) (fun s => CS pts f t E s.1 s.2.1 s.2.2.1.reverse ∧ s.2.2.2 = s.2.2.1.length) (fun s => s.2.1.length) (a0,R0,[(t : Int)],1) ⟨hcs0,rfl⟩ ?_
   rintro ⟨x,R,u,m3⟩ ⟨hcs,hm3⟩
   dsimp only at hcs hm3
   try dsimp only
   have hcl := hcs.len
   rw [List.length_reverse] at hcl
   have hxl := hcs.xl
   have hbx : (uJ pts.length E)[x]! = gW E x := gQ hxl
   by_cases hxf : x = f
   ·have hcs2 := hcs
    rw [hxf] at hcs2
    have hfin := hcs2.fin
    repeat' (first|(apply aF;first|(apply aL (t := _);rfl;rfl;rfl;exact (rfl:_=some [_]);rfl;rfl)|(apply MM;rfl;(rfl);(apply N4 <;> (simp only [gB] <;> omega));rfl;rfl))|refine aE ?_|(refine aJ ?_ ?_ <;> intro hc hq <;> try (exfalso;omega))|fail)
    refine aR (Le.frzD (d := 6) (i := 4) rfl rfl) ?_
    refine aD rfl ⟨?_,(by exact Pur.pf)⟩
    rw [hfin,hen,decide_eq_true hlk0,List.reverse_append,hxf,hm3]
    simp [aM,sl]
   ·obtain ⟨a, R', h1, h2, h3⟩ := hcs.step w.nx hf I hxf
    rw [h1] at hbx
    repeat' (first|(apply aF;(apply aL (t := _);rfl;rfl;rfl;exact (rfl:_=some [_]);rfl;rfl))|refine aE ?_|(refine aJ ?_ ?_ <;> intro hc hq <;> try (exfalso;omega))|fail)
    rw [hbx]
    (refine bC (a,R',_,_) (Le.renA [(0,0),(2,4)]) ?_ ?_)
    ·exact ⟨by dsimp only;rw [List.reverse_append]; exact h2,by dsimp only;rw [List.length_append,hm3]; rfl⟩
    ·dsimp only;omega
theorem nO (ts:List Int) (bd:List AL.Stmt) (pts:List Pnt) (f:Flows ts pts) (w:WG ts pts) (a l:Nat) (ha:a < pts.length) (hl:l < pts.length) :
  PC Tryz.prog 88 [aG ts bd pts,iv (a : Int),iv (l : Int)] (fun r => r = .tup [iv (jT (dP pts a) (dR ts pts f.Af l) pts.length).1,bv (decide (0 ≤ (jT (dP pts a) (dR ts pts f.Af l) pts.length).1))]) := by
 have hpl := w.pl
 have htl := w.tl
 have b := f.bnd w
 have hli := v8 ts bd pts f.Af w f.gf
 refine aB Tryz.func88 Tryz.ntmps88 ?_
 repeat' (first|(apply aF;(apply aA (k := 104);rfl;exact hli;exact Pur.pf;rfl))|refine aE ?_|fail)
 refine AW.le ?_ (Le.frzP (d := 5) (i := 0) rfl rfl)
 refine AW.le ?_ (Le.frzP (d := 8) (i := 1) rfl rfl)
 refine aH (σ := Nat × Int × Nat) [0,1,5,8,21,22] [] (fun s => [(23,iv (s.1 : Int)),(9,iv s.2.1),(10,iv (s.2.2 : Int))]) (fun s => []) (fun s => s.1 ≤ pts.length ∧ s.2.1 = (jT (dP pts a) (dR ts pts f.Af l) s.1).1 ∧ s.2.2 = (jT (dP pts a) (dR ts pts f.Af l) s.1).2.length) (fun s => pts.length - s.1) (0,-1,0) ⟨by omega,rfl,rfl⟩ ?_
 rintro ⟨i,bi,li⟩ ⟨hi,hbi,hli2⟩
 dsimp only at hi hbi hli2
 try dsimp only
 by_cases hin : i < pts.length
 ·have hus := fR ts bd pts pts[i]! htl
  have hsm : Sm (wS ts pts[i]! [1,2,3]) := bR (by omega)
  have hmem : ∀ v ∈ a8 (wS ts pts[i]! [1, 2, 3]), 0 ≤ v ∧ v < 6 := fun v hv => by
   obtain ⟨v',h3,h4,rfl⟩ := cM.1 hv
   rw [b9,Bool.and_eq_true,decide_eq_true_eq] at h4
   omega
  have hco := JT (a8 (wS ts pts[i]! [1,2,3])) pts.length f.Af (i : Int) (l : Int) (by unfold a8;rw [List.length_map]; exact Nat.le_trans (List.length_filter_le _ _) (by simp)) hmem f.gf.1 (by omega) (by omega) (b.rs i hin)
  have hU : (a8 (wS ts pts[i]! [1,2,3])).any (u1 f.Af (i : Int) (l : Int)) = dR ts pts f.Af l i := F7 ts pts f.Af l i htl
  rw [hU] at hco
  have hsw := gD ts bd pts a i w ha hin
  have hwl := gO (x := i) w.nx ha
  rw [← cQ] at hwl
  repeat' (first|(apply aF;first|((apply e8 11);(case hx|hH|hc|hN => rfl))|(apply aA (k := 157);rfl;exact hco;exact Pur.pf;rfl)|(apply aA (k := 89);rfl;exact hsw;exact Pur.pf;rfl)|(first|(apply aA (k := 120);rfl;(apply fO <;> (assumption));(rfl);rfl)|(apply aA (k := 158);rfl;(apply fR <;> (assumption));exact Pur.pf;rfl)))|refine aE ?_|(refine aJ ?_ ?_ <;> intro hc hq <;> try (exfalso;omega))|(refine bO ?_ ?_ <;> intro hg hq <;> try (exfalso;omega))|fail)
  ·have hb := xQ (W := dP pts a) (U := dR ts pts f.Af l) (i := i) (.inl (by assumption))
   (refine bC (i + 1,bi,li) (Le.renA []) ?_ ?_)
   ·exact ⟨by dsimp only;omega,by dsimp only;rw [hb,hbi],by dsimp only;rw [hb,hli2]⟩
   ·dsimp only;omega
  ·have hu : dR ts pts f.Af l i = true := by assumption
   have hW := DM w.nx ha (by assumption : 0 ≤ gW (mF pts a) i)
   have hb := rE (W := dP pts a) (U := dR ts pts f.Af l) hu hW (by rw [cQ] at *; omega)
   (refine bC (i + 1,_,_) (Le.renA []) ?_ ?_)
   ·exact ⟨by dsimp only;omega,by dsimp only;rw [hb],by dsimp only;rw [hb,cQ]⟩
   ·dsimp only;omega
  ·have hb := C9 (W := dP pts a) (U := dR ts pts f.Af l) (i := i) (by omega) (by rw [cQ] at *; omega)
   (refine bC (i + 1,bi,li) (Le.renA []) ?_ ?_)
   ·exact ⟨by dsimp only;omega,by dsimp only;rw [hb,hbi],by dsimp only;rw [hb,hli2]⟩
   ·dsimp only;omega
  ·have hu : dR ts pts f.Af l i = true := by assumption
   have hW := DM w.nx ha (by assumption : 0 ≤ gW (mF pts a) i)
   have hb := rE (W := dP pts a) (U := dR ts pts f.Af l) hu hW (by rw [cQ] at *; omega)
   (refine bC (i + 1,_,_) (Le.renA []) ?_ ?_)
   ·exact ⟨by dsimp only;omega,by dsimp only;rw [hb],by dsimp only;rw [hb,cQ]⟩
   ·dsimp only;omega
  ·have hb := xQ (W := dP pts a) (U := dR ts pts f.Af l) (i := i) (.inr (DX (by assumption)))
   (refine bC (i + 1,bi,li) (Le.renA []) ?_ ?_)
   ·exact ⟨by dsimp only;omega,by dsimp only;rw [hb,hbi],by dsimp only;rw [hb,hli2]⟩
   ·dsimp only;omega
 ·repeat' (first | refine aE ?_ | (refine aJ ?_ ?_ <;> intro hc hq <;> try (exfalso; omega))|fail)
  refine aD rfl ⟨?_,rfl⟩
  rw [show pts.length = i by omega,← hbi]; rfl
theorem ET (ts:List Int) (pts:List Pnt) (f t:Nat) (E:List (Nat × Nat)) (w:WG ts pts) (hf:f < pts.length) (ht:t < pts.length) (hE:E <+: mF pts f) (hlk:0 ≤ gW E t) :
  PC Tryz.prog 209 [sl cI (uJ pts.length E),iv (f : Int),iv (t : Int)] (fun r => r = sl cI (dS (dP pts f t))) := by
 have hpl := w.pl
 have hbl := fY pts.length E
 have hbt : (uJ pts.length E)[t]! = gW E t := gQ ht
 obtain ⟨I,a0,R0,hx0,hcs0⟩ := CS.start w.nx hf hE hlk
 have hle := I.le w.nx
 rw [hx0] at hbt
 refine aB Tryz.func209 Tryz.ntmps209 ?_
 repeat' (first|refine aE ?_|fail)
 rw [hbt]
 refine aH (σ := Nat × List (Nat × Nat) × List Int × Nat) [0,1] [] (fun s => [(8,iv (s.1 : Int)),(7,.own 0 0 s.2.2.2 1)]) (fun s => [(0,some (flat cI s.2.2.1))]) (fun s => CS pts f t E s.1 s.2.1 s.2.2.1 ∧ s.2.2.2 = s.2.2.1.length) (fun s => s.2.1.length) (a0,R0,[(t : Int)],1) ⟨hcs0,rfl⟩ ?_
 rintro ⟨x,R,u,m⟩ ⟨hcs,hm⟩
 dsimp only at hcs hm
 try dsimp only
 have hcl := hcs.len
 have hxl := hcs.xl
 have hbx : (uJ pts.length E)[x]! = gW E x := gQ hxl
 by_cases hxf : x = f
 ·have hcs2 := hcs
  rw [hxf] at hcs2
  have hfin := hcs2.fin
  repeat' (first|(apply aF;(apply bS;rfl;rfl;rfl;rfl;rfl;exact Nat.le_refl _;exact Ix rfl hm;omega;omega;exact (rfl:_=flat cI (_ :: u));rfl;rfl))|refine aE ?_|(refine aJ ?_ ?_ <;> intro hc hq <;> try (exfalso;omega))|fail)
  refine aR (Le.frzD (d := 6) (i := 2) rfl rfl) ?_
  refine aD rfl ⟨?_,(by (exact a9 _ _))⟩
  rw [hfin,hm,Nat.add_comm]
  rfl
 ·obtain ⟨a, R', h1, h2, h3⟩ := hcs.step w.nx hf I hxf
  rw [h1] at hbx
  repeat' (first|(apply aF;(apply bS;rfl;rfl;rfl;rfl;rfl;exact Nat.le_refl _;exact Ix rfl hm;omega;omega;exact (rfl:_=flat cI (_ :: u));rfl;rfl))|refine aE ?_|(refine aJ ?_ ?_ <;> intro hc hq <;> try (exfalso;omega))|fail)
  rw [hbx]
  (refine bC (a,R',_,_) (Le.renA [(0,2)]) ?_ ?_)
  ·exact ⟨h2,by dsimp only;rw [List.length_cons]; omega⟩
  ·dsimp only;omega
theorem j7 (ts:List Int) (pts:List Pnt) (f t:Nat) (w:WG ts pts) (hf:f < pts.length) (ht:t < pts.length) :
  PC Tryz.prog 148 [sl bZ pts,iv (f : Int),iv (t : Int)] (fun r => r = .tup [sl cI (dS (dP pts f t)),bv (decide (0 ≤ gW (mF pts f) t))]) := by
 have hpl := w.pl
 have hbe : ∀ h,BI pts f (jQ pts f h) := nI w.nx hf
 refine aB Tryz.func148 Tryz.ntmps148 ?_
 repeat' (first|refine aE ?_|fail)
 rw [Lu]
 refine aH (σ := Nat × List Int) [0,1,2,8] [] (fun k => [(9,iv (k.1 : Int))]) (fun k => [(0,some (flat cI k.2))]) (fun k => k.1 ≤ pts.length ∧ k.2.length = pts.length ∧ (∀ l,l < k.1 → k.2[l]! = -1)) (fun k => pts.length - k.1) (0,List.replicate pts.length 0) ⟨by omega,by simp,by omega⟩ ?_
 rintro ⟨k,u⟩ ⟨hk,hul,hu⟩
 dsimp only at hk hul hu
 try dsimp only
 by_cases hkn : k < pts.length
 ·repeat' (first | refine aE ?_ | (refine aJ ?_ ?_ <;> intro hc hq <;> try (exfalso; omega))|fail)
  (refine bC (k + 1,_) (Le.renA [(0,0)]) ?_ ?_)
  ·refine ⟨by omega, by dsimp only; rw [List.length_set]; exact hul, fun l hl => ?_⟩
   dsimp only at hl ⊢
   rw [aQ]
   by_cases e : k = l
   ·rw [if_pos ⟨e,by omega⟩]
   ·rw [if_neg (by omega)]; exact hu l (by omega)
  ·dsimp only;omega
 ·repeat' (first | refine aE ?_ | (refine aJ ?_ ?_ <;> intro hc hq <;> try (exfalso; omega))|fail)
  have hbk0 : u = uJ pts.length [] := bG (by rw [fY,hul]) fun l hl => by rw [hu l (by omega),gQ (by omega)]; rfl
  subst hbk0
  refine aH (σ := Nat × List (Nat × Nat) × List Int × Nat) [0,1,2,8] [] (fun s => [(10,.own 1 0 s.2.2.2 1)]) (fun s => [(0,some (flat cI (uJ pts.length s.2.1))),(1,some (flat cI s.2.2.1))]) (fun s => s.2.1 = jQ pts f s.1 ∧ s.2.2.1 = fE f s.2.1 s.1 ∧ s.2.2.2 = s.2.2.1.length ∧ s.1 ≤ s.2.1.length + 1 ∧ gW s.2.1 t < 0) (fun s => pts.length + 1 - s.1) (0,[],[(f : Int)],1) ⟨rfl,rfl,rfl,by dsimp only;omega,(by show (-1 : Int) < 0;decide)⟩ ?_
  rintro ⟨h,E,T,m⟩ ⟨hE,hT,hm,hh,hlk⟩
  dsimp only at hE hT hm hh hlk
  try dsimp only
  have I := hbe h
  rw [← hE] at I
  have hle := I.le w.nx
  have hbl := fY pts.length E
  by_cases hgo : 0 < T.length
  ·have hlt : h < (kA f E).length := by
    have := mU f E h;rw [fQ]; rw [← hT] at this;omega
   have hcons := s8 hlt
   have hqo := CJ hlt
   obtain ⟨a,ha⟩ : ∃ a,a = (kA f E)[h]! := ⟨_,rfl⟩
   rw [← ha] at hcons hqo
   have hal : a < pts.length := by
    rcases hqo with e|e
    ·rw [e]; exact hf
    ·obtain ⟨x,hx,e⟩ := List.mem_map.1 e;rw [← e]; exact (hle.2 x hx).1
   have hbs : jQ pts f (h + 1) = iY E a pts[a]!.next := by rw [hE] at hlt ha ⊢; exact Im hlt ha
   rw [hcons] at hT
   subst hT
   simp only [List.length_cons] at hm
   repeat' (first|(apply aF;first|(with_reducible apply aW (d := 10))|(apply nT;rfl;rfl;omega;rfl))|refine aE ?_|(refine aJ ?_ ?_ <;> intro hc hq <;> try (exfalso;omega))|fail)
   refine bU (cX ?_ (Le.mvO (d := 35) (i := 1) rfl rfl (by simp [aI]) (by decide)))
   have hnl := w.nl a hal
   have hpop : fE f E (h + 1) = fE f (iY E a (pts[a]!.next.take 0)) (h + 1) := rfl
   have hnk := w.nx a hal
   have hek : ∀ k,BI pts f (iY E a (pts[a]!.next.take k)) := fun k => xV _ _ I hqo (fun z hz => ⟨hal,by have := hnk z (List.mem_of_mem_take hz);rw [Int.toNat_of_nonneg this.1]; exact List.mem_of_mem_take hz⟩)
   repeat' (first|refine aE ?_|fail)
   refine aH (σ := Nat × List (Nat × Nat) × List Int × Nat) [0,1,2,8] [] (fun s => [(12,iv (s.1 : Int)),(11,iv (a : Int)),(10,.own 2 0 s.2.2.2 1)]) (fun s => [(0,some (flat cI (uJ pts.length s.2.1))),(2,some (flat cI s.2.2.1))]) (fun s => s.1 ≤ pts[a]!.next.length ∧ s.2.1 = iY E a (pts[a]!.next.take s.1) ∧ s.2.2.1 = fE f s.2.1 (h + 1) ∧ s.2.2.2 = s.2.2.1.length ∧ gW s.2.1 t < 0) (fun s => pts[a]!.next.length - s.1) (0,E,fE f E (h + 1),m - 1) ⟨by omega,rfl,hpop,by dsimp only;omega,hlk⟩ ?_
   rintro ⟨k,E2,T2,m2⟩ ⟨hk,hE2,hT2,hm2,hlk2⟩
   dsimp only at hk hE2 hT2 hm2 hlk2
   try dsimp only
   have I2 := hek k
   rw [← hE2] at I2
   have hle2 := I2.le w.nx
   have hbl2 := fY pts.length E2
   have htl2 := mU f E2 (h + 1)
   rw [← hT2] at htl2
   by_cases hkn : k < pts[a]!.next.length
   ·have hz := hnk _ (aN _ _ hkn)
    have hbz : (uJ pts.length E2)[(pts[a]!.next[k]!).toNat]! = gW E2 (pts[a]!.next[k]!).toNat := gQ (by omega)
    have hsu := vV E a pts[a]!.next k hkn
    rw [← hE2] at hsu
    have hql : h + 1 ≤ (kA f E2).length := by
     have h1 := gU a (pts[a]!.next.take k) E
     rw [← hE2] at h1
     have := h1.length_le
     rw [fQ] at hlt ⊢; omega
    by_cases hlz : gW E2 (pts[a]!.next[k]!).toNat < 0
    ·have hnew := xO (a := a) hlz
     by_cases hzt : pts[a]!.next[k]! = (t : Int)
     ·have hE3 : E2 ++ [((pts[a]!.next[k]!).toNat, a)] <+: mF pts f := by
       rw [← hnew,← hsu]
       exact (EG _ _ _ _).trans (by rw [← hbs]; exact DG (h := h + 1) (by have := fQ f E;omega))
      have hl3 : 0 ≤ gW (E2 ++ [((pts[a]!.next[k]!).toNat, a)]) t := by
       rw [wT hlz,if_pos (by omega)]; omega
      have hbk := ET ts pts f t _ w hf ht hE3 hl3
      have hl4 : 0 ≤ gW (mF pts f) t := by rw [(xP (f := f) hE3 (hbe _).nd (eH.1 hl3)).2]; exact hl3
      rw [← w7 hlz (by omega),show sl cI ((uJ pts.length E2).set (pts[a]!.next[k]!).toNat (a : Int)) = AV.imm pts.length (flat cI ((uJ pts.length E2).set (pts[a]!.next[k]!).toNat (a : Int))) from by unfold sl;rw [List.length_set,fY]] at hbk
      repeat' (first|(apply aF;(with_reducible apply aW (d := 66)))|refine aE ?_|(refine aJ ?_ ?_ <;> intro hc hq <;> try (exfalso;omega))|fail)
      refine bU (cX ?_ (Le.frzD (d := 8) (i := 0) rfl rfl))
      repeat' (first|(apply aF;(apply aA (k := 209);rfl;exact hbk;exact Pur.pf;rfl))|refine aE ?_|fail)
      refine aD rfl ⟨?_,(by exact Pur.pf)⟩
      rw [decide_eq_true hl4]
      rfl
     ·repeat' (first | (apply aF; (apply aL (t := _);rfl;rfl;rfl;exact (rfl:_=some [_]);rfl;rfl)) | refine aE ?_ | (refine aJ ?_ ?_ <;> intro hc hq <;> try (exfalso; omega))|fail)
      rw [w7 hlz (by omega)]
      (refine bC (k + 1,_,_,_) (Le.renA [(0,0),(2,4)]) ?_ ?_)
      ·refine ⟨by dsimp only; omega, by dsimp only; rw [hsu, xO hlz], by dsimp only; rw [vB hql, hT2, Int.toNat_of_nonneg hz.1], by dsimp only; rw [List.length_append]; simp; omega, ?_⟩
       dsimp only;rw [wT hlz,if_neg (by omega)]; exact hlk2
      ·dsimp only;omega
    ·repeat' (first | refine aE ?_ | (refine aJ ?_ ?_ <;> intro hc hq <;> try (exfalso; omega))|fail)
     (refine bC (k + 1,E2,T2,m2) (Le.renA [(0,0),(2,2)]) ?_ ?_)
     ·refine ⟨by dsimp only;omega,by dsimp only;rw [hsu,DO (by omega)],hT2,hm2,hlk2⟩
     ·dsimp only;omega
   ·repeat' (first | refine aE ?_ | (refine aJ ?_ ?_ <;> intro hc hq <;> try (exfalso; omega))|fail)
    have hkl : k = pts[a]!.next.length := by omega
    rw [hkl,List.take_length] at hE2
    have hpre : E <+: E2 := by rw [hE2]; exact gU _ _ _
    have hple := hpre.length_le
    rw [fQ] at hlt
    (refine bC (h + 1,E2,T2,m2) (Le.renA [(0,0),(1,2)]) ?_ ?_)
    ·exact ⟨by dsimp only;rw [hbs,hE2],hT2,hm2,by dsimp only;omega,hlk2⟩
    ·dsimp only;omega
  ·have hT0 : T = [] := List.eq_nil_of_length_eq_zero (by omega)
   have hee : E = mF pts f := by
    rw [hE]; exact DR w.nx hf (by rw [← hE]; rw [hT] at hT0;exact vD.1 hT0)
   have hm0 : m = 0 := by omega
   repeat' (first|(apply aF;(apply aL (t := _);rfl;rfl;rfl;(rfl);rfl;rfl))|refine aE ?_|(refine aJ ?_ ?_ <;> intro hc hq <;> try (exfalso;omega))|fail)
   refine aD rfl ⟨?_,(by (rfl))⟩
   rw [DX (by rw [← hee]; exact hlk),← hee,decide_eq_false (by omega)]
   rfl
theorem GR (ts:List Int) (pts:List Pnt) (a:Nat) (F0:List Bool) (w:WG ts pts) (ha:a < pts.length) (hF0:GoodR pts a F0):PC Tryz.prog 210 [sl bZ pts,iv (a:Int)] (fun r => r = sl cB F0):=by
 have hpl := w.pl
 have hnl := w.nl a ha
 have hst := RI.start w.nx ha
 have hmu := E1 hpl hnl
 refine aB Tryz.func210 Tryz.ntmps210 ?_
 repeat' (first|refine aE ?_|fail)
 refine aH (σ := List Bool × List Int × Nat) [0,5] [] (fun s => [(6,.own 2 0 s.2.2 1)]) (fun s => [(0,some (flat cB s.1)),(2,some (flat cI s.2.1))]) (fun s => RI pts a s.1 s.2.1 ∧ Ci s.1 s.2.1 ≤ 200 ∧ s.2.2 = s.2.1.length) (fun s => Ci s.1 s.2.1) (List.replicate pts.length false,pts[a]!.next,0 + pts[a]!.next.length) ⟨hst,hmu,Nat.zero_add _⟩ ?_
 rintro ⟨F,T,m⟩ ⟨I,hm,hml⟩
 dsimp only at I hm hml
 try dsimp only
 have hFl := I.len
 have hTl := Kb F T
 by_cases hT : 0 < m
 ·repeat' (first | (apply aF; first | (with_reducible apply aW (d := 6)) | (apply tH (h := m - 1);rfl;rfl;omega;omega;rfl)) | refine aE ?_ | (refine aJ ?_ ?_ <;> intro hc hq <;> try (exfalso; omega))|fail)
  rw [show ((m : Int) - 1).toNat = m - 1 by omega]
  refine bU (cX ?_ (Le.cut (i := 2) (m - 1) rfl))
  rw [GJ]
  obtain ⟨hkm,hks⟩ := IF hml hT
  obtain ⟨k,hkk⟩ : ∃ k,k = T[m - 1]! := ⟨_,rfl⟩
  rw [← hkk] at hkm hks ⊢
  have hk := I.tw k hkm
  have hnk := w.nl k.toNat (by omega)
  have hk1 : 0 ≤ k ∧ k < pts.length := ⟨hk.1,hk.2.1⟩
  have htk : (T.take (m - 1)).length = m - 1 := by rw [List.length_take]; omega
  have htl : ∀ G,Ci G (T.take (m - 1)) + 1 = Ci G T := fun G => by unfold Ci;rw [htk]; omega
  have htF := htl F
  by_cases hv : F[k.toNat]! = true
  ·repeat' (first | (apply aF; (apply bS;rfl;rfl;rfl;rfl;rfl;(rw [aI]; omega);(exact tJ (by (rfl)));omega;omega;(exact oC (by (omega)));rfl;rfl)) | refine aE ?_ | (refine aJ ?_ ?_ <;> intro hc hq <;> try (exfalso; omega))|fail)
   all_goals try exact absurd (hv.symm.trans (by assumption : F[k.toNat]! = false)) (by decide)
   (refine bC (F,_,_) (Le.renA [(0,0),(2,2)]) ?_ ?_)
   ·exact ⟨I.vis hks (fun x hx => List.mem_of_mem_take hx) hv,by dsimp only;omega,by dsimp only;omega⟩
   ·dsimp only;omega
  ·rw [Bool.not_eq_true] at hv
   have hms := Jv (F := F) (k := k.toNat) (by omega) hv (T.take (m - 1))
   have hma := Kp (F.set k.toNat true) (T.take (m - 1)) pts[k.toNat]!.next
   repeat' (first|(apply aF;(apply bS;rfl;rfl;rfl;rfl;rfl;(rw [aI]; omega);(exact tJ (by (rfl)));omega;omega;(exact oC (by (omega)));rfl;rfl))|refine aE ?_|(refine aJ ?_ ?_ <;> intro hc hq <;> try (exfalso;omega))|fail)
   all_goals try exact absurd (hv.symm.trans (by assumption : F[k.toNat]! = true)) (by decide)
   (refine bC (F.set k.toNat true,_,_) (Le.renA [(0,0),(2,3)]) ?_ ?_)
   ·exact ⟨I.new w.nx hkm (fun x hx => by
     rcases hks x hx with h|h
     ·exact .inl h
     ·exact .inr (List.mem_append_left _ h)) (fun x hx => List.mem_append_right _ hx) (fun x hx => by
     rcases List.mem_append.1 hx with h|h
     ·exact .inl (List.mem_of_mem_take h)
     ·exact .inr h),by dsimp only;omega,by dsimp only;rw [List.length_append]; omega⟩
   ·dsimp only;omega
 ·have hT0 : T = [] := List.eq_nil_of_length_eq_zero (by omega)
  rw [hT0] at I
  repeat' (first|refine aE ?_|(refine aJ ?_ ?_ <;> intro hc hq <;> try (exfalso;omega))|fail)
  refine aR (Le.frzD (d := 4) (i := 0) rfl rfl) ?_
  refine aD rfl ⟨?_,(by (exact a9 _ _))⟩
  have e := I.fin hF0 w.nx
  rw [← e]
  simp only [aM,sl,hFl]
def FP (ts : List Int) (x : Pnt) (fr : List (List Bool)) (loan v : Nat) : Bool := fr[v]![loan]! && decide (a6 ts x v ≠ 0)
theorem EW (ts:List Int) (x:Pnt) (fr:List (List Bool)) (pl:List Bool) (loan:Nat) (hn:ts.length ≤ 6) (h1:fr.length = ts.length) (h2:∀ v,v < ts.length → loan < fr[v]!.length) :
  PC Tryz.prog 211 [sl cI ts,dD x,.agg [sl gL fr,sl cB pl],iv (loan : Int)] (fun r => r = bv ((List.range ts.length).any (FP ts x fr loan))) := by
 refine aB Tryz.func211 Tryz.ntmps211 ?_
 repeat' (first|refine aE ?_|fail)
 refine aH (σ := Nat) [0,3,5,6] [0,1] (fun k => [(9,iv (k : Int))]) (fun k => []) (fun k => k ≤ ts.length ∧ ∀ v,v < k → FP ts x fr loan v = false) (fun k => ts.length - k) (0) ⟨by omega,by omega⟩ ?_
 rintro k ⟨hk,hall⟩
 try dsimp only
 by_cases hkn : k < ts.length
 ·have hlo := h2 k hkn
  have hnx : FP ts x fr loan k = false → ∀ v, v < k + 1 → FP ts x fr loan v = false := fun h v hv => by
   by_cases e : v = k
   ·rw [e]; exact h
   ·exact hall v (by omega)
  have hyes : FP ts x fr loan k = true → (List.range ts.length).any (FP ts x fr loan) = true := fun h => List.any_eq_true.2 ⟨k,List.mem_range.2 hkn,h⟩
  have hus : FP ts x fr loan k = (fr[k]![loan]! && decide (a6 ts x k ≠ 0)) := rfl
  repeat' (first|(apply aF;(apply aA (k := 173);rfl;(apply kW <;> (omega));exact Pur.pf;rfl))|refine aE ?_|(refine aJ ?_ ?_ <;> intro hc hq <;> try (exfalso;omega))|(refine bO ?_ ?_ <;> intro hg hq <;> try (exfalso;omega))|fail)
  ·refine aD rfl ⟨?_, rfl⟩
   rw [hyes (by rw [hus,(by assumption : fr[k]![loan]! = true),decide_eq_true (by assumption)]; rfl)]; rfl
  ·(refine bC (k + 1) (Le.renA [(0, 0), (1, 1)]) ?_ ?_)
   ·exact ⟨by omega,hnx (by rw [hus,decide_eq_false (fun h => h (by assumption)),Bool.and_false])⟩
   ·omega
  ·(refine bC (k + 1) (Le.renA [(0, 0), (1, 1)]) ?_ ?_)
   ·exact ⟨by omega,hnx (by rw [hus,(by assumption : fr[k]![loan]! = false),Bool.false_and])⟩
   ·omega
 ·repeat' (first | refine aE ?_ | (refine aJ ?_ ?_ <;> intro hc hq <;> try (exfalso; omega))|fail)
  refine aD rfl ⟨?_,rfl⟩
  have : (List.range ts.length).any (FP ts x fr loan) = false := by
   rw [List.any_eq_false]; intro v hv;rw [hall v (by rw [List.mem_range] at hv;omega)]; decide
  rw [this]; rfl
theorem KX (ts:List Int) (pts:List Pnt) (Af Ap:List Nat) (loan i:Nat) (hA:Af.length = pts.length * 6) (hn:ts.length ≤ 6) (hi:i < pts.length) (hl:loan < pts.length):(List.range ts.length).any (FP ts pts[i]! (g9 ts.length pts.length Af Ap i).1 loan) = dR ts pts Af loan i:=by
 unfold dR
 rw [Bool.eq_iff_iff,List.any_eq_true,List.any_eq_true]
 have key : ∀ v, v < ts.length → FP ts pts[i]! (g9 ts.length pts.length Af Ap i).1 loan v = (decide (a6 ts pts[i]! v ≠ 0) && (cY Af i)[v]!.testBit loan) := fun v hv => by
  unfold FP g9
  dsimp only
  rw [bF _ _ _ hv,bF _ _ _ hl,eY hA hi (by omega),Bool.and_comm]
 constructor
 ·rintro ⟨v,hv,h⟩; exact ⟨v,hv,by rw [← key v (List.mem_range.1 hv)]; exact h⟩
 ·rintro ⟨v,hv,h⟩; exact ⟨v,hv,by rw [key v (List.mem_range.1 hv)]; exact h⟩
theorem kT (p:Prg) (a l:Nat) (f:Flows p.types (aC p)) (F0:List Bool) (hl:p.types.length ≤ 1048576) (hs:aU p.body ≤ 1048576) (hv:bK p = true) (ha:a < (aC p).length) (hll:l < (aC p).length) (hF0:GoodR (aC p) a F0) :
  PC Tryz.prog 149 [bQ p,iv (a : Int),iv (l : Int)] (fun r => r = if 0 ≤ (jT (dP (aC p) a) (dR p.types (aC p) f.Af l) (aC p).length).1 then .tup [iv (jT (dP (aC p) a) (dR p.types (aC p) f.Af l) (aC p).length).1,bv true] else .tup [iv 0,bv false]) := by
 have w := WG.of_valid hv
 have hpl := w.pl
 have htl := w.tl
 have hPP := qC p hl hs
 rw [if_pos hv] at hPP
 have hfl := zP p f.Af f.Ap hs w f.gf f.gp
 have hfll : ((List.range (aC p).length).map (g9 p.types.length (aC p).length f.Af f.Ap)).length = (aC p).length := by simp
 have hfi : ∀ i,i < (aC p).length → ((List.range (aC p).length).map (g9 p.types.length (aC p).length f.Af f.Ap))[i]! = g9 p.types.length (aC p).length f.Af f.Ap i := fun i hi => bF _ _ _ hi
 have hf1 : ∀ i,(g9 p.types.length (aC p).length f.Af f.Ap i).1.length = p.types.length := fun i => by simp [g9]
 have hf2 : ∀ i v, v < p.types.length → l < (g9 p.types.length (aC p).length f.Af f.Ap i).1[v]!.length := fun i v hv => by
  unfold g9;dsimp only;rw [bF _ _ _ hv]; simpa using hll
 have hus := fun (i : Nat) (hi : i < (aC p).length) => EW p.types (aC p)[i]! ((List.range (aC p).length).map (g9 p.types.length (aC p).length f.Af f.Ap))[i]!.1 ((List.range (aC p).length).map (g9 p.types.length (aC p).length f.Af f.Ap))[i]!.2 l htl (by rw [hfi i hi]; exact hf1 i) (by rw [hfi i hi]; exact hf2 i)
 have hU : ∀ i,i < (aC p).length → (List.range p.types.length).any (FP p.types (aC p)[i]! ((List.range (aC p).length).map (g9 p.types.length (aC p).length f.Af f.Ap))[i]!.1 l) = dR p.types (aC p) f.Af l i := fun i hi => by rw [hfi i hi]; exact KX _ _ _ _ _ _ f.gf.1 htl hi hll
 clear hfi hf1 hf2
 generalize (List.range (aC p).length).map (g9 p.types.length (aC p).length f.Af f.Ap) = FL at hfl hfll hus hU
 have hfr := GR p.types (aC p) a F0 w ha hF0
 have hF0l := hF0.l
 have hUt := p.types.length
 refine aB Tryz.func149 Tryz.ntmps149 ?_
 repeat' (first|(apply aF;first|(apply aA (k := 151);rfl;exact hPP;exact Pur.pf;rfl)|(apply aA (k := 171);rfl;exact hfl;exact Pur.pf;rfl)|(apply aA (k := 210);rfl;exact hfr;exact Pur.pf;rfl)|(apply aL (t := _);rfl;rfl;rfl;(rfl);rfl;rfl))|refine aE ?_|(refine aJ ?_ ?_ <;> intro hc hq <;> try (exfalso;omega))|(refine bO ?_ ?_ <;> intro hg hq <;> try (exfalso;omega))|fail)
 refine aH (σ := Nat × List Int) [1,2,3,8,9,10] [0] (fun s => [(12,iv (s.1 : Int)),(11,sl cI s.2)]) (fun s => []) (fun s => s.1 ≤ (aC p).length ∧ s.2 = dS (jT (dP (aC p) a) (dR p.types (aC p) f.Af l) s.1).2) (fun s => (aC p).length - s.1) (0,[]) ⟨by omega,rfl⟩ ?_
 rintro ⟨i,bl⟩ ⟨hi,hbl⟩
 dsimp only at hi hbl
 try dsimp only
 have hbp := Kk (W := dP (aC p) a) (U := dR p.types (aC p) f.Af l) (i := i)
 have hbln := JA (W := dP (aC p) a) (U := dR p.types (aC p) f.Af l) (fun j => gO (x := j) w.nx ha) i
 have hbll : bl.length = (jT (dP (aC p) a) (dR p.types (aC p) f.Af l) i).2.length := by rw [hbl,cQ]
 by_cases hin : i < (aC p).length
 ·have hu := hus i hin
  rw [hU i hin] at hu
  have hw := j7 p.types (aC p) a i w ha hin
  have hwl := gO (x := i) w.nx ha
  rw [← cQ] at hwl
  repeat' (first|(apply aF;first|(apply aA (k := 211);rfl;exact hu;exact Pur.pf;rfl)|(apply aA (k := 148);rfl;exact hw;exact Pur.pf;rfl))|refine aE ?_|(refine aJ ?_ ?_ <;> intro hc hq <;> try (exfalso;omega))|(refine bO ?_ ?_ <;> intro hg hq <;> try (exfalso;omega))|refine bI ?_|fail)
  ·have hb := xQ (W := dP (aC p) a) (U := dR p.types (aC p) f.Af l) (i := i) (.inl (by assumption))
   (refine bC (i + 1,bl) (Le.renA [(0,0)]) ?_ ?_)
   ·exact ⟨by dsimp only;omega,by dsimp only;rw [hb,hbl]⟩
   ·dsimp only;omega
  ·have hu2 : dR p.types (aC p) f.Af l i = true := by assumption
   have hW := (iM w.nx ha).2 ((hF0.g i hin).1 (by assumption))
   have hb := rE (W := dP (aC p) a) (U := dR p.types (aC p) f.Af l) hu2 hW (by rw [cQ] at *; omega)
   (refine bC (i + 1,_) (Le.renA [(0,0)]) ?_ ?_)
   ·exact ⟨by dsimp only;omega,by dsimp only;rw [hb]; rfl⟩
   ·dsimp only;omega
  ·have hb := C9 (W := dP (aC p) a) (U := dR p.types (aC p) f.Af l) (i := i) (by omega) (by rw [cQ] at *; omega)
   (refine bC (i + 1,bl) (Le.renA [(0,0)]) ?_ ?_)
   ·exact ⟨by dsimp only;omega,by dsimp only;rw [hb,hbl]⟩
   ·dsimp only;omega
  ·have hu2 : dR p.types (aC p) f.Af l i = true := by assumption
   have hW := (iM w.nx ha).2 ((hF0.g i hin).1 (by assumption))
   have hb := rE (W := dP (aC p) a) (U := dR p.types (aC p) f.Af l) hu2 hW (by rw [cQ] at *; omega)
   (refine bC (i + 1,_) (Le.renA [(0,0)]) ?_ ?_)
   ·exact ⟨by dsimp only;omega,by dsimp only;rw [hb]; rfl⟩
   ·dsimp only;omega
  ·have hb := xQ (W := dP (aC p) a) (U := dR p.types (aC p) f.Af l) (i := i) (.inr (Classical.byContradiction fun h => by have h2 := (hF0.g i hin).2 ((iM w.nx ha).1 h); rw [(by assumption : F0[i]! = false)] at h2; cases h2))
   (refine bC (i + 1,bl) (Le.renA [(0,0)]) ?_ ?_)
   ·exact ⟨by dsimp only;omega,by dsimp only;rw [hb,hbl]⟩
   ·dsimp only;omega
 ·have hin2 : (aC p).length = i := by omega
  repeat' (first|refine aE ?_|(refine aJ ?_ ?_ <;> intro hc hq <;> try (exfalso;omega))|fail)
  ·exact aD rfl ⟨by rw [hin2,if_neg (by omega)]; rfl,rfl⟩
  ·have hla := Gj w.nx ha hbl (by omega)
   refine aD rfl ⟨?_,rfl⟩
   rw [hla.1,hin2,if_pos hla.2]; rfl
def HW (x : Iss) (L : List Iss) : Int := match L.findIdx? (HL x) with | some i => i | none => -1
theorem MR (L:List Iss) (x:Iss) (hl:L.length ≤ 1048576):PC Tryz.prog 155 [sl fA L,fV x] (fun r => r = iv (HW x L)):=by
 refine aB Tryz.func155 Tryz.ntmps155 ?_
 repeat' (first|refine aE ?_|fail)
 refine aH (σ := Nat) [0,3,7] [0] (fun k => [(8,iv (k : Int))]) (fun k => []) (fun k => k ≤ L.length ∧ ∀ j,j < k → HL x L[j]! = false) (fun k => L.length - k) (0) ⟨by omega,by omega⟩ ?_
 intro k ⟨hk,hall⟩
 have heq : (x.point == L[k]!.point && (x.kind == L[k]!.kind && x.with_ == L[k]!.with_)) = HL x L[k]! := rfl
 by_cases hkn : k < L.length
 ·cases hb : HL x L[k]!
  ·rw [hb] at heq
   repeat' (first|(apply aF;(apply yW;rfl;rfl;(rw [heq]; rfl);rfl))|refine aE ?_|(refine aJ ?_ ?_ <;> intro hc hq <;> try (exfalso;omega))|refine bI ?_|fail)
   (refine bC (k + 1) (Le.renA [(0,0)]) ?_ ?_)
   ·refine ⟨by omega, fun j hj => ?_⟩
    by_cases e : j = k
    ·subst e;exact hb
    ·exact hall j (by omega)
   ·omega
  ·rw [hb] at heq
   repeat' (first|(apply aF;(apply yW;rfl;rfl;(rw [heq]; rfl);rfl))|refine aE ?_|(refine aJ ?_ ?_ <;> intro hc hq <;> try (exfalso;omega))|refine bI ?_|fail)
   refine aD rfl ⟨?_,rfl⟩
   have : L.findIdx? (HL x) = some k := by
    rw [List.findIdx?_eq_some_iff_getElem]
    refine ⟨hkn,by rw [← aS L k hkn]; exact hb,fun j hj => ?_⟩
    have := hall j hj;rw [aS L j (by omega)] at this;rw [this]; decide
   simp only [HW,this]; rfl
 ·repeat' (first | refine aE ?_ | (refine aJ ?_ ?_ <;> intro hc hq <;> try (exfalso; omega))|fail)
  refine aD rfl ⟨?_,rfl⟩
  have : L.findIdx? (HL x) = none := by
   rw [List.findIdx?_eq_none_iff]
   intro y hy
   obtain ⟨j,hj,rfl⟩ := List.getElem_of_mem hy
   have := hall j (by omega);rw [aS L j hj] at this;exact this
  simp only [HW,this]; rfl
theorem JO (x:Iss) (L:List Iss):decide (0 ≤ HW x L) = decide (x ∈ L):=by
 unfold HW
 split
 ·rename_i i h
  obtain ⟨h1,h2,_⟩ := List.findIdx?_eq_some_iff_getElem.1 h
  rw [decide_eq_true (by rw [(rU _ _).1 h2]; exact List.getElem_mem h1 : x ∈ L)]; simp
 ·rename_i h
  rw [List.findIdx?_eq_none_iff] at h
  have : ¬ x ∈ L := fun hx => by have := h x hx;rw [(rU x x).2 rfl] at this;cases this
  rw [decide_eq_false this]; rfl
theorem oJ (L:List Iss) (x:Iss) (hl:L.length ≤ 1048576):PC Tryz.prog 85 [sl fA L,fV x] (fun r => r = bv (decide (x ∈ L))):=by
 have hi := MR L x hl
 refine aB Tryz.func85 Tryz.ntmps85 ?_
 repeat' (first|(apply aF;(apply aA (k := 155);rfl;exact hi;exact Pur.pf;rfl))|refine aE ?_|fail)
 refine aD rfl ⟨?_,rfl⟩
 exact congrArg bv (JO x L)
theorem lX (p:Prg) (L:List Iss) (x:Iss) (hC:PC Tryz.prog 98 [bQ p] (fun r => r = sl fA L)) (hl:L.length ≤ 1048576):PC Tryz.prog 146 [bQ p,fV x] (fun r => r = bv (decide (x ∈ L))):=by
 refine aB Tryz.func146 Tryz.ntmps146 ?_
 repeat' (first|(apply aF;(apply aA (k := 98);rfl;exact hC;exact Pur.pf;rfl))|refine aE ?_|fail)
 refine aH (σ := Nat) [3,5] [0,1] (fun k => [(6,iv (k : Int))]) (fun k => []) (fun k => k ≤ L.length ∧ ∀ j,j < k → HL L[j]! x = false) (fun k => L.length - k) (0) ⟨by omega,by omega⟩ ?_
 intro k ⟨hk,hall⟩
 have heq : (L[k]!.point == x.point && (L[k]!.kind == x.kind && L[k]!.with_ == x.with_)) = HL L[k]! x := rfl
 by_cases hkn : k < L.length
 ·cases hb : HL L[k]! x
  ·rw [hb] at heq
   repeat' (first|(apply aF;(apply yW;rfl;rfl;(rw [heq]; rfl);rfl))|refine aE ?_|(refine aJ ?_ ?_ <;> intro hc hq <;> try (exfalso;omega))|refine bI ?_|fail)
   (refine bC (k + 1) (Le.renA [(0,0),(1,1)]) ?_ ?_)
   ·refine ⟨by omega, fun j hj => ?_⟩
    by_cases e : j = k
    ·subst e;exact hb
    ·exact hall j (by omega)
   ·omega
  ·rw [hb] at heq
   repeat' (first|(apply aF;(apply yW;rfl;rfl;(rw [heq]; rfl);rfl))|refine aE ?_|(refine aJ ?_ ?_ <;> intro hc hq <;> try (exfalso;omega))|refine bI ?_|fail)
   refine aD rfl ⟨?_,rfl⟩
   rw [decide_eq_true (by have := aN L k hkn;rw [(rU _ _).1 hb] at this;exact this : x ∈ L)]; rfl
 ·repeat' (first | refine aE ?_ | (refine aJ ?_ ?_ <;> intro hc hq <;> try (exfalso; omega))|fail)
  refine aD rfl ⟨?_,rfl⟩
  rw [decide_eq_false (fun h => by
   obtain ⟨j,hj,e⟩ := List.getElem_of_mem h
   have := hall j (by omega)
   rw [aS L j hj,e,(rU x x).2 rfl] at this;cases this)]; rfl
theorem xX (ts:List Int) (bd:List AL.Stmt) (pts:List Pnt) (t:Nat) (w:WG ts pts) (hr:Rch pts) (ht:t < pts.length):PC Tryz.prog 87 [aG ts bd pts,iv (t:Int)] (fun r => r = .tup [sl cI (dS (wG pts t)),bv true]):=by
 have h0 := w.p0
 by_cases hz : t = 0
 ·subst hz
  refine aB Tryz.func87 Tryz.ntmps87 ?_
  repeat' (first|(apply aF;(apply aL (t := _);rfl;rfl;rfl;exact (rfl:_=some [_]);rfl;rfl))|refine aE ?_|fail)
  all_goals first|exact aD rfl ⟨rfl,(by (rfl))⟩|exact absurd trivial (by assumption : ¬ True)
 ·have hsw := gD ts bd pts 0 t w h0 ht
  rw [decide_eq_true ((fP w.nx h0 t).2 (hr.wy t t (Nat.le_refl _) (by omega) ht))] at hsw
  have e : wG pts t = dP pts 0 t := if_neg hz
  rw [← e] at hsw
  refine aB Tryz.func87 Tryz.ntmps87 ?_
  repeat' (first|(apply aF;(apply aA (k := 89);rfl;exact hsw;exact Pur.pf;rfl))|refine aE ?_|(refine aJ ?_ ?_ <;> intro hc hq <;> try (exfalso;omega))|fail)
  exact aD rfl ⟨rfl,(by exact Pur.pf)⟩
theorem rN (ts:List Int) (pts:List Pnt) (t:Nat) (w:WG ts pts) (ht:t < pts.length):PC Tryz.prog 147 [sl bZ pts,iv (t:Int)] (fun r => r = sl cI (dS (wG pts t))):=by
 have h0 := w.p0
 by_cases hz : t = 0
 ·subst hz
  refine aB Tryz.func147 Tryz.ntmps147 ?_
  repeat' (first|(apply aF;(apply aL (t := _);rfl;rfl;rfl;exact (rfl:_=some [_]);rfl;rfl))|refine aE ?_|fail)
  all_goals first|exact aD rfl ⟨rfl,(by (rfl))⟩|exact absurd trivial (by assumption : ¬ True)
 ·have hsw := j7 ts pts 0 t w h0 ht
  have e : wG pts t = dP pts 0 t := if_neg hz
  rw [← e] at hsw
  refine aB Tryz.func147 Tryz.ntmps147 ?_
  repeat' (first|(apply aF;(apply aA (k := 148);rfl;exact hsw;exact Pur.pf;rfl))|refine aE ?_|(refine aJ ?_ ?_ <;> intro hc hq <;> try (exfalso;omega))|fail)
  exact aD rfl ⟨rfl,(by (exact a9 _ _))⟩
theorem vK (a b:List Int) (ha:a.length ≤ 1000) (hb:b.length ≤ 1000) (h1:0 < b.length):PC Tryz.prog 150 [sl cI a,sl cI b] (fun r => r = sl cI (a ++ b.drop 1)):=by
 have htl : (List.take (b.length - Int.toNat 1) (List.drop (Int.toNat 1) b)).length = b.length - 1 := by
  show (List.take (b.length - 1) (List.drop 1 b)).length = _
  rw [List.length_take,List.length_drop]; omega
 refine aB Tryz.func150 Tryz.ntmps150 ?_
 repeat' (first|(apply aF;(apply bS;rfl;rfl;rfl;rfl;rfl;(case hl => first|(rw [aI]; omega)|(simp [aI]; done));(exact tJ (by (rfl)));omega;omega;(exact oC (by (omega)));rfl;rfl))|refine aE ?_|refine bI ?_|fail)
 refine aR (Le.frzD (d := 4) (i := 2) rfl rfl) ?_
 refine aD rfl ⟨?_,(by (exact a9 _ _))⟩
 have e : List.take (b.length - Int.toNat 1) (List.drop (Int.toNat 1) b) = b.drop 1 := by
  show List.take (b.length - 1) (List.drop 1 b) = _
  exact List.take_of_length_le (by rw [List.length_drop]; omega)
 rw [e]
 simp only [aM,sl,List.length_append,Nat.zero_add]
theorem J5 (p:Prg) (x:Iss) (hv:bK p = false) (hl:p.types.length ≤ 1048576) (hs:aU p.body ≤ 1048576):PC Tryz.prog 33 [bQ p,fV x] (fun r => r = .tup [sl cI [],bv false]):=by
 have hg := eQ p hl hs
 rw [if_neg (by simp [hv])] at hg
 refine aB Tryz.func33 Tryz.ntmps33 ?_
 repeat' (first|(apply aF;(apply aA (k := 72);rfl;exact hg;exact Pur.pf;rfl))|refine aE ?_|refine bI ?_|fail)
 (refine aR (Le.nilImm (d := 4) rfl) ?_; refine aD rfl ?_)
 exact ⟨rfl,rfl⟩
theorem Lc (p:Prg) (f:Flows p.types (aC p)) (x:Iss) (hv:bK p = true) (hx:x ∉ f.iss) (hl:p.types.length ≤ 1048576) (hs:aU p.body ≤ 1048576):PC Tryz.prog 33 [bQ p,fV x] (fun r => r = .tup [sl cI [],bv false]):=by
 have w := WG.of_valid hv
 have hg := eQ p hl hs
 rw [if_pos hv] at hg
 have hi := j9 p.types p.body (aC p) w f
 have hc := oJ f.iss x (Nat.le_trans (kJ w f) (by decide))
 rw [decide_eq_false hx] at hc
 refine aB Tryz.func33 Tryz.ntmps33 ?_
 repeat' (first|(apply aF;first|(apply aA (k := 72);rfl;exact hg;exact Pur.pf;rfl)|(apply aA (k := 86);rfl;exact hi;exact Pur.pf;rfl)|(apply aA (k := 85);rfl;exact hc;exact Pur.pf;rfl))|refine aE ?_|refine bI ?_|fail)
 (refine aR (Le.nilImm (d := 4) rfl) ?_; refine aD rfl ?_)
 exact ⟨rfl,rfl⟩
theorem KU (p:Prg) (f:Flows p.types (aC p)) (a:Nat) (k wi:Int) (hk:k = 1) (ha:a < (aC p).length) (hv:bK p = true) (hx:(⟨(a:Int),k,wi⟩:Iss) ∈ f.iss) (hl:p.types.length ≤ 1048576) (hs:aU p.body ≤ 1048576) :
  PC Tryz.prog 33 [bQ p,fV ⟨(a : Int),k,wi⟩] (fun r => r = .tup [sl cI (dS (wG (aC p) a)),bv true]) := by
 have w := WG.of_valid hv
 have hg := eQ p hl hs
 rw [if_pos hv] at hg
 have hi := j9 p.types p.body (aC p) w f
 have hc := oJ f.iss ⟨(a : Int),k,wi⟩ (Nat.le_trans (kJ w f) (by decide))
 rw [decide_eq_true hx] at hc
 have hb := xX p.types p.body (aC p) a w (Rch.of p) ha
 subst hk
 refine aB Tryz.func33 Tryz.ntmps33 ?_
 repeat' (first|(apply aF;first|(apply aA (k := 72);rfl;exact hg;exact Pur.pf;rfl)|(apply aA (k := 86);rfl;exact hi;exact Pur.pf;rfl)|(apply aA (k := 85);rfl;exact hc;exact Pur.pf;rfl)|(apply aA (k := 87);rfl;exact hb;exact Pur.pf;rfl))|refine aE ?_|refine bI ?_|fail)
 all_goals first|exact aD rfl ⟨rfl,(by exact Pur.pf)⟩
theorem K7 (p:Prg) (f:Flows p.types (aC p)) (a l:Nat) (k:Int) (hk:k ≠ 1) (ha:a < (aC p).length) (hll:l < (aC p).length) (hv:bK p = true) (hx:(⟨(a:Int),k,(l:Int)⟩:Iss) ∈ f.iss) (hl:p.types.length ≤ 1048576) (hs:aU p.body ≤ 1048576) (u:Nat)
  (hu : (jT (dP (aC p) a) (dR p.types (aC p) f.Af l) (aC p).length).1 = (u : Int)) (hun : u < (aC p).length) (h2 : dP (aC p) l a ≠ []) (h3 : dP (aC p) a u ≠ []) :
  PC Tryz.prog 33 [bQ p,fV ⟨(a : Int),k,(l : Int)⟩] (fun r => r = .tup [sl cI (dS (wG (aC p) l) ++ (dS (dP (aC p) l a)).drop 1 ++ (dS (dP (aC p) a u)).drop 1),bv true]) := by
 have w := WG.of_valid hv
 have hg := eQ p hl hs
 rw [if_pos hv] at hg
 have hi := j9 p.types p.body (aC p) w f
 have hc := oJ f.iss ⟨(a : Int),k,(l : Int)⟩ (Nat.le_trans (kJ w f) (by decide))
 rw [decide_eq_true hx] at hc
 have hua := nO p.types p.body (aC p) f w a l ha hll
 rw [hu,decide_eq_true (by omega)] at hua
 have hb := xX p.types p.body (aC p) l w (Rch.of p) hll
 have hs1 := gD p.types p.body (aC p) l a w hll ha
 rw [decide_eq_true ((fP w.nx hll a).2 ((iM w.nx hll).1 h2))] at hs1
 have hs2 := gD p.types p.body (aC p) a u w ha hun
 rw [decide_eq_true ((fP w.nx ha u).2 ((iM w.nx ha).1 h3))] at hs2
 have hl1 := gO (x := a) w.nx hll
 have hl2 := gO (x := u) w.nx ha
 have hl0 := rV w.nx w.p0 l
 have hpl := w.pl
 rw [← cQ] at hl0 hl1 hl2
 have hp1 : 0 < (dS (dP (aC p) l a)).length := by rw [cQ]; exact List.length_pos_iff.2 h2
 have hp2 : 0 < (dS (dP (aC p) a u)).length := by rw [cQ]; exact List.length_pos_iff.2 h3
 generalize dS (wG (aC p) l) = A at *
 generalize dS (dP (aC p) l a) = B at *
 generalize dS (dP (aC p) a u) = D at *
 have hco := It [A,List.take (B.length - Int.toNat 1) (List.drop (Int.toNat 1) B),List.take (D.length - Int.toNat 1) (List.drop (Int.toNat 1) D)] (by simp) (by simp;omega)
 refine aB Tryz.func33 Tryz.ntmps33 ?_
 repeat' (first|(apply aF;first|(apply sU (t := 185);rfl;rfl;rfl;exact (rfl:_=some [_,_,_]);rfl;rfl)|(apply aA (k := 72);rfl;exact hg;exact Pur.pf;rfl)|(apply aA (k := 86);rfl;exact hi;exact Pur.pf;rfl)|(apply aA (k := 85);rfl;exact hc;exact Pur.pf;rfl)|(apply aA (k := 88);rfl;exact hua;exact Pur.pf;rfl)|(apply aA (k := 87);rfl;exact hb;exact Pur.pf;rfl)|(apply aA (k := 89);rfl;exact hs1;exact Pur.pf;rfl)|(apply aA (k := 89);rfl;exact hs2;exact Pur.pf;rfl)|(apply aA (k := 90);rfl;exact hco;exact Pur.pf;rfl))|refine aE ?_|(refine aJ ?_ ?_ <;> intro hc hq <;> try (exfalso;omega))|refine bI ?_|fail)
 refine aD rfl ⟨?_,(by exact Pur.pf)⟩
 have eB : List.take (B.length - Int.toNat 1) (List.drop (Int.toNat 1) B) = B.drop 1 := by
  show List.take (B.length - 1) (List.drop 1 B) = _
  exact List.take_of_length_le (by rw [List.length_drop]; omega)
 have eD : List.take (D.length - Int.toNat 1) (List.drop (Int.toNat 1) D) = D.drop 1 := by
  show List.take (D.length - 1) (List.drop 1 D) = _
  exact List.take_of_length_le (by rw [List.length_drop]; omega)
 rw [eB,eD]
 simp [aM]
theorem JD (p:Prg) (f:Flows p.types (aC p)) (a l:Nat) (k:Int) (hk:k ≠ 1) (ha:a < (aC p).length) (hll:l < (aC p).length) (hv:bK p = true) (hx:(⟨(a:Int),k,(l:Int)⟩:Iss) ∈ f.iss) (hl:p.types.length ≤ 1048576) (hs:aU p.body ≤ 1048576)
  (hu : (jT (dP (aC p) a) (dR p.types (aC p) f.Af l) (aC p).length).1 < 0) :
  PC Tryz.prog 33 [bQ p,fV ⟨(a : Int),k,(l : Int)⟩] (fun r => r = .tup [sl cI [],bv false]) := by
 have w := WG.of_valid hv
 have hg := eQ p hl hs
 rw [if_pos hv] at hg
 have hi := j9 p.types p.body (aC p) w f
 have hc := oJ f.iss ⟨(a : Int),k,(l : Int)⟩ (Nat.le_trans (kJ w f) (by decide))
 rw [decide_eq_true hx] at hc
 have hua := nO p.types p.body (aC p) f w a l ha hll
 rw [decide_eq_false (by omega : ¬ 0 ≤ (jT (dP (aC p) a) (dR p.types (aC p) f.Af l) (aC p).length).1)] at hua
 refine aB Tryz.func33 Tryz.ntmps33 ?_
 repeat' (first|(apply aF;first|(apply aA (k := 72);rfl;exact hg;exact Pur.pf;rfl)|(apply aA (k := 86);rfl;exact hi;exact Pur.pf;rfl)|(apply aA (k := 85);rfl;exact hc;exact Pur.pf;rfl)|(apply aA (k := 88);rfl;exact hua;exact Pur.pf;rfl))|refine aE ?_|(refine aJ ?_ ?_ <;> intro hc hq <;> try (exfalso;omega))|refine bI ?_|fail)
 (refine aR (Le.nilImm (d := 4) rfl) ?_; refine aD rfl ?_)
 exact ⟨rfl,rfl⟩
theorem Kw (p:Prg) (f:Flows p.types (aC p)) (a l:Nat) (k:Int) (hk:k ≠ 1) (ha:a < (aC p).length) (hll:l < (aC p).length) (hv:bK p = true) (hx:(⟨(a:Int),k,(l:Int)⟩:Iss) ∈ f.iss) (hl:p.types.length ≤ 1048576) (hs:aU p.body ≤ 1048576) (u:Nat)
  (hu : (jT (dP (aC p) a) (dR p.types (aC p) f.Af l) (aC p).length).1 = (u : Int)) (hun : u < (aC p).length) (h2 : ¬ Wy (aC p) l a) :
  PC Tryz.prog 33 [bQ p,fV ⟨(a : Int),k,(l : Int)⟩] (fun r => r = .tup [sl cI [],bv false]) := by
 have w := WG.of_valid hv
 have hg := eQ p hl hs
 rw [if_pos hv] at hg
 have hi := j9 p.types p.body (aC p) w f
 have hc := oJ f.iss ⟨(a : Int),k,(l : Int)⟩ (Nat.le_trans (kJ w f) (by decide))
 rw [decide_eq_true hx] at hc
 have hua := nO p.types p.body (aC p) f w a l ha hll
 rw [hu,decide_eq_true (by omega)] at hua
 have hb := xX p.types p.body (aC p) l w (Rch.of p) hll
 have hs1 := gD p.types p.body (aC p) l a w hll ha
 rw [decide_eq_false (fun h => h2 ((fP w.nx hll a).1 h))] at hs1
 have hs2 := gD p.types p.body (aC p) a u w ha hun
 refine aB Tryz.func33 Tryz.ntmps33 ?_
 repeat' (first|(apply aF;first|(apply aA (k := 72);rfl;exact hg;exact Pur.pf;rfl)|(apply aA (k := 86);rfl;exact hi;exact Pur.pf;rfl)|(apply aA (k := 85);rfl;exact hc;exact Pur.pf;rfl)|(apply aA (k := 88);rfl;exact hua;exact Pur.pf;rfl)|(apply aA (k := 87);rfl;exact hb;exact Pur.pf;rfl)|(apply aA (k := 89);rfl;exact hs1;exact Pur.pf;rfl)|(apply aA (k := 89);rfl;exact hs2;exact Pur.pf;rfl))|refine aE ?_|(refine aJ ?_ ?_ <;> intro hc hq <;> try (exfalso;omega))|refine bI ?_|fail)
 (refine aR (Le.nilImm (d := 4) rfl) ?_; refine aD rfl ?_)
 exact ⟨rfl,rfl⟩
end Go.Proofs.YtahdccneecdmmaaGreat
