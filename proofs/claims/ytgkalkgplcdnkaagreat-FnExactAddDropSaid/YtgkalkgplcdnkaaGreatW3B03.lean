/-
 A part of the proofs over this program: rules and contracts of its functions (the contracts).
-/
import Derived.Test.YtgkalkgplcdnkaaGreatW3B02
import Derived.Test.YtgkalkgplcdnkaaGreatRows
import Derived.WalkKit
import Derived.ProofKit
import Derived.OpenShut
import Derived.Carry
import Derived.ChangeSlices
import Derived.Shelf.Spec.SlicesInsert
import Derived.Lib.AppendZerosOnto
import Derived.Laws.NewBlocks
set_option linter.unusedVariables false
set_option linter.unusedSimpArgs false
set_option maxHeartbeats 8000000
set_option maxRecDepth 4000
attribute [local irreducible] Go.AL.RW Go.AL.AW Go.AL.Stop
namespace Go.Proofs.YtgkalkgplcdnkaaGreat
open Go.AL Go.RowKit
variable {N : Nat} {Q : Exit → AS → Prop} {all : Array Oper} {rest : List Oper} {tsl : List (Nat × AV)} {hsl : List (Nat × Option (List AV))} {nidl : Nat} {z0 : Lo} {md : Md} {d : Nat} {ty : TypeId} {pos : String} {af : Array Edge} {tys : Array TypeId}
def Di (nv N : Nat) (i : Nat) : List AV := [.imm nv (flat (vL (i * (nv + 1)) N) (List.range nv)),.own (i * (nv + 1) + nv + aX) 0 N 1]
instance (nv N : Nat) : FlT (Di nv N) 2:=⟨fun _ => rfl⟩
instance (nv N : Nat) : FE (Di nv N) (fun i => [.imm nv (flat (vL (i * (nv + 1)) N) (List.range nv)),.own (i * (nv + 1) + nv + aX) 0 N 1]):=⟨fun _ => rfl⟩
theorem nX {m:List (Nat × Nat)}{lo:Lo}{pn:Option Nat}{nv N k M:Nat}(hk:k ≤ M) (h:lo.fb = aX + M * (nv + 1)):RnL (iL m lo pn) (flat (Di nv N) (List.range k)) (flat (Di nv N) (List.range k)) :=
 RnL.flt fun i hi => by
  rw [List.mem_range] at hi
  have h1 : i * (nv + 1) + nv < M * (nv + 1) := fP (by omega) (by omega)
  exact .cons (.imm (cU (by rw [h]; omega))) (.cons (.own (gI (by omega) (by rw [h]; omega))) .nil)
theorem EW {m:List (Nat × Nat)}{lo:Lo}{pn:Option Nat}{nv N k:Nat}(h:lo.fb = aX + (k + 1) * (nv + 1)):RnL (iL m lo pn) (flat (Di nv N) (List.range (k + 1))) (((flat (Di nv N) (List.range k)).drop 0).take (k * 2) ++ Di nv N k):=by
 have e : ((flat (Di nv N) (List.range k)).drop 0).take (k * 2) = flat (Di nv N) (List.range k) := List.take_of_length_le (by rw [List.drop_zero,aK (Di nv N) (e := 2)]; simp)
 have := nX (m := m) (pn := pn) (N := N) (Nat.le_refl (k + 1)) h
 rw [e]
 rw [List.range_succ,← bC,k6] at this ⊢
 exact this
def JD (s : List (List Bool) × List Bool) : List AV := [sl gJ s.1,sl cB s.2]
instance : FlT JD 2:=⟨fun _ => rfl⟩
instance : FE JD (fun s => [sl gJ s.1,sl cB s.2]):=⟨fun _ => rfl⟩
theorem HW {D:List Nat}{hs:List (Nat × Option (List AV))}{R:List (List Bool)}{nv N M n:Nat}(hF:FamR R R hs hs) (hD:∀ k,k < nv + 1 → n * (nv + 1) + k + aX ∈ D) (hlo:R.length = M * (nv + 1)) (hn:n < M) (hro:∀ q,q < R.length → R[q]!.length = N) :
  LdL D (aP hs) (Di nv N n) [sl gJ (jC nv R n),sl cB (jR nv R n)] := by
 have h1 : n * (nv + 1) + nv < M * (nv + 1) := fP hn (by omega)
 have h2 : (jC nv R n).length = nv := o8 hlo hn
 have h3 : (jR nv R n).length = N := hro _ (by omega)
 have e1 : sl gJ (jC nv R n) = .imm nv (flat gJ ((R.drop (n * (nv + 1))).take nv)) := by unfold sl;rw [h2]; rfl
 have e2 : sl cB (jR nv R n) = .imm N (flat cB (jR nv R n)) := by unfold sl;rw [h3]
 rw [e1,e2]
 exact .cons (.imm (LdL.rows hF (fun k hk => hD k (by omega)) (by omega) (fun k hk => hro _ (by omega)))) (.cons (.own (hD nv (by omega)) (hF.get (by omega)) (.pur (inferInstance : Pur (flat cB _)).pf)) .nil)
def Gd (b : Nat) : List Nat := [b + 0 + aX,b + 1 + aX,b + 2 + aX,b + 3 + aX,b + 4 + aX,b + 5 + aX,b + 6 + aX]
theorem vR {b k:Nat}(h:k < 7):b + k + aX ∈ Gd b:=by
 unfold Gd
 match k,h with
 | 0,_ => simp
 | 1,_ => simp
 | 2,_ => simp
 | 3,_ => simp
 | 4,_ => simp
 | 5,_ => simp
 | 6,_ => simp
theorem pK {nv N n k:Nat}{R:List (List Bool)}(hlo:R.length = N * (nv + 1)) (hn:n < N) (hk:k < nv + 1):((R.drop (n * (nv + 1))).take (nv + 1))[k]! = R[n * (nv + 1) + k]!:=by
 have h1 := fP hn hk
 have h2 : n * (nv + 1) + nv < N * (nv + 1) := fP hn (by omega)
 rw [bF _ _ (by rw [List.length_take,List.length_drop]; omega),bF _ _ (by omega),List.getElem_take,List.getElem_drop]
theorem jP {nv N n:Nat}{R:List (List Bool)}(hlo:R.length = N * (nv + 1)) (hn:n < N):((R.drop (n * (nv + 1))).take (nv + 1)).length = nv + 1:=by
 have h2 : n * (nv + 1) + nv < N * (nv + 1) := fP hn (by omega)
 rw [List.length_take,List.length_drop]; omega
theorem CQ (ts:List Int) (pts:List Pnt) (w:WG ts pts) (i:Nat) (hi:i < pts.length) (R:List (List Bool)) (h:FSd ts pts R) :
  Ju Tryz.prog 145 [sl cI ts,sl b0 pts,iv (i : Int),Ja 0 ts.length pts.length] ((R.drop (i * (ts.length + 1))).take (ts.length + 1)) (.agg [sl gJ (nQ ts pts i (jC ts.length R i)),sl cB (nR ts pts i (jR ts.length R i))]) [] := by
 have h1 := CU ts pts w i hi ((R.drop (i * (ts.length + 1))).take (ts.length + 1)) (jP h.lo hi) (fun k hk => by rw [pK h.lo hi hk]; exact h.ro _ (by rw [h.lo]; exact fP hi hk))
 rw [pK h.lo hi (by omega),List.take_take,show min ts.length (ts.length + 1) = ts.length from by omega] at h1
 exact h1
theorem Br {ts:List Int}{pts:List Pnt}(w:WG ts pts){R:List (List Bool)}(h:FSd ts pts R){i v:Nat}(hi:i < pts.length) (hv:v < ts.length):(nQ ts pts i (jC ts.length R i))[v]!.length = pts.length:=by
 rw [jZ _ _ _ _ _ hv]
 split
 ·exact iK _ _ _ _
 ·split
  ·simp
  ·rw [fU h.lo hi hv]; exact h.ro _ (by rw [h.lo]; exact fP hi (by omega))
theorem qY {b:List Bool}{R:List (List Bool)}{k m:Nat}{x0 x1:Operand}(ha0:ev (lk tsl) x0 = some (.own (k + aX) 0 m 1)) (ha1:ev (lk tsl) x1 = some (sl cB b))
  (hF : FamR R R hsl hsl) (hk : k < R.length) (hm : m = R[k]!.length) (hab : b.length ≤ R[k]!.length) (hl : R[k]!.length ≤ 1048576) (hM : Nat.ble (nidl + 0) aX = true) (hN : Nat.blt d N = true) {md' : Md} [hmd : MdA md (jS [x0,x1] ++ [.inr (k + aX)]) [.inr (k + aX),.inl d] md']
  (kk : RW Tryz.prog N all Q md' rest ⟨(d,.tup []) :: tsl,(k + aX,some (flat cB (fS R[k]! b))) :: hsl,nidl + 0,z0⟩) : RW Tryz.prog N all Q md (⟨some d,.call ⟨.value (.func 147),#[x0,x1],tys⟩,ty,pos,af,none⟩ :: rest) ⟨tsl,hsl,nidl,z0⟩ :=
 vN (a := R[k]!) (b := b) (i0 := k + aX) ha0 ha1 (hF.get hk) (Ba R[k]! b m hm hab hl) hM hN (md' := md') (hmd := hmd) kk
theorem DT (p:Prg) (Af Ap:List Nat) (hs:aI p.body ≤ 1048576) (w:WG p.types (aE p)) (hAf:oI p.types (aE p) Af) (hAp:oL p.types (aE p) Ap):PC Tryz.prog 106 [bY p] (fun r => r = sl JD ((List.range (aE p).length).map (kI p.types.length (aE p).length Af Ap))):=by
 have hpl := w.pl
 have hp0 := w.p0
 have htl := w.tl
 refine aC Tryz.func106 Tryz.ntmps106 ?_
 repeat' (first|(apply aH;(apply aA (k := 27);rfl;exact jT p hs;exact Pur.pf;rfl))|refine aF ?_|fail)
 refine dO (σ := Nat) (fun k => List.replicate ((p.types.length + 1) * k) (List.replicate (aE p).length false)) [1,3] [0] (fun k => [(5,iv (k : Int)),(4,.own 1 0 k 2)]) (fun k => [(1,some (flat (Di p.types.length (aE p).length) (List.range k)))]) (fun k => k ≤ (aE p).length) (fun k => (aE p).length - k) (0) (Nat.zero_le _) ?_
 intro k hk
 try dsimp only
 repeat' (first|(apply aH;first|(with_reducible apply dM (d := 27))|(with_reducible apply dM (d := 6)))|refine aF ?_|(refine aU ?_ ?_ <;> intro hc hq <;> try (exfalso;omega))|fail)
 ·have hrep : List.replicate ((p.types.length + 1) * k) (List.replicate (aE p).length false) ++ List.replicate (p.types.length + 1) (List.replicate (aE p).length false) = List.replicate ((p.types.length + 1) * (k + 1)) (List.replicate (aE p).length false) := by
   rw [List.replicate_append_replicate,Nat.mul_succ]
  refine iB ?_
  have hst := Dc p.types.length (aE p).length htl hpl
  apply Ep (R := List.replicate ((p.types.length + 1) * k) (List.replicate (aE p).length false)) (avs := [iv (p.types.length : Int),iv ((aE p).length : Int)]) (rr' := Ja (k * (p.types.length + 1)) p.types.length (aE p).length) (h := hst)
  case ha => rfl
  case hp => rfl
  case hF => (repeat' (first|exact FamR.here|(apply FamR.cons;focus rfl)))
  case hz => rfl
  case hM => rfl
  case hN => rfl
  case hr =>
   refine .agg (.cons (.imm (rn_rows fun j hj => ?_)) (.cons (.own ?_) .nil))
   ·rw [if_pos (by rw [List.length_replicate]; omega)]; congr 1;rw [List.length_replicate,Nat.mul_comm]; omega
   ·rw [if_pos (by rw [List.length_replicate]; omega)]; congr 1;rw [List.length_replicate,Nat.mul_comm]; omega
  rw [hrep]
  repeat' (first|(apply aH;(apply cY;rfl;rfl;rfl;rfl;rfl;(case hl => (simp [aK]; done));(rfl);omega;omega;(rfl);rfl;rfl))|refine aF ?_|fail)
  (apply bS (k + 1);focus (refine Le.renF0 [(0,0),(1,3)] (R := ?qA1) (hF := ?qF1) (hz := ?qz1) (hm := ?qm1) (hn := ?qn1) (h1 := ?q11) (h2 := ?q21);(case qF1 => (repeat' (first|exact FamR.here|(apply FamR.cons;focus rfl))));(case qz1 => (rfl));(case qm1 => rfl);(case qn1 => decide);all_goals (repeat' (first|exact trivial|refine And.intro ⟨_,rfl,?_⟩ ?_|refine And.intro ⟨_,_,rfl,rfl,?_⟩ ?_|exact RnL.purI inferInstance|exact RnV.purI inferInstance|exact RnV.own rfl|exact RnV.optr rfl|exact EW (by show aX + (List.replicate ((p.types.length + 1) * (k + 1)) (List.replicate (aE p).length false)).length = _; rw [List.length_replicate,Nat.mul_comm])))))
  ·show k + 1 ≤ (aE p).length;omega
  ·show (aE p).length - (k + 1) < (aE p).length - k;omega
 ·have hkN : k = (aE p).length := by omega
  subst hkN
  refine iB (fM ?_ (Le.frzD (d := 4) (i := 1) rfl rfl))
  rw [Nat.mul_comm]
  repeat' (first|refine aF ?_|fail)
  refine dO (σ := List (List Bool) × Bool) (fun s => s.1) [1,3,4] [0] (fun s => [(6,bv s.2)]) (fun s => []) (fun s => FH p.types (aE p) s.1 s.2) (fun s => Ka p.types (aE p) s.1 s.2) (List.replicate ((aE p).length * (p.types.length + 1)) (List.replicate (aE p).length false),true) (FH.init _ _) ?_
  rintro ⟨R,c⟩ hFH
  try dsimp only at hFH
  try dsimp only
  have hRl := hFH.d.lo
  have hRr := hFH.d.ro
  cases c with
  | false =>
   repeat' (first|refine aF ?_|fail)
   have hfin := hFH.final w hAf hAp
   refine bW (Le.frzAll (d := 2) (D := (List.range R.length).map fun k => k + aX) rfl (.imm (LdL.flt fun n hn => HW (R := R) (M := (aE p).length) (by (repeat' (first|exact FamR.here|(apply FamR.cons;focus rfl)))) (fun k hk => List.mem_map.2 ⟨n * (p.types.length + 1) + k,by rw [List.mem_range,hRl]; exact fP (List.mem_range.1 hn) hk,rfl⟩) hRl (List.mem_range.1 hn) hRr))) ?_
   refine aO rfl ⟨?_,(by (exact bD _ _))⟩
   simp only [aQ]
   have e1 : (List.range (aE p).length).map (fun n => (jC p.types.length R n, jR p.types.length R n)) = (List.range (aE p).length).map (kI p.types.length (aE p).length Af Ap) := List.map_congr_left fun n hn => by
    have := hfin n (List.mem_range.1 hn)
    rw [this.1,this.2]
   have e2 : flat (fun n => [sl gJ (jC p.types.length R n), sl cB (jR p.types.length R n)]) (List.range (aE p).length) = flat JD ((List.range (aE p).length).map (kI p.types.length (aE p).length Af Ap)) := by
    rw [← e1,flat,flat,List.flatMap_map]; rfl
   rw [e2]
   simp only [sl,List.length_map,List.length_range]
  | true =>
   have hst := hFH.start
   repeat' (first|refine aF ?_|fail)
   refine dO (σ := Nat × List (List Bool) × Bool) (fun s => s.2.1) [1,3,4] [0] (fun s => [(6,bv s.2.2),(7,iv (s.1 : Int))]) (fun s => []) (fun s => s.1 ≤ (aE p).length ∧ FS p.types (aE p) R s.2.1 s.2.2 (DF s.1 0)) (fun s => (aE p).length - s.1) (0,R,false) ⟨Nat.zero_le _,hst⟩ ?_
   rintro ⟨j,R1,c1⟩ ⟨hj,hS1⟩
   dsimp only at hj hS1
   have hl1 := hS1.d.lo
   try dsimp only
   by_cases hjn : j < (aE p).length
   ·have hnl := w.nl j hjn
    repeat' (first|(apply aH;first|(apply vT (k := 145) (R := R1) (avs0 := [sl cI p.types,sl b0 (aE p),iv (j : Int),Ja 0 p.types.length (aE p).length]) (b := j * (p.types.length + 1)) (n1 := 0) (D := Gd (j * (p.types.length + 1))) (ws := []) (h := CQ p.types (aE p) w j hjn R1 hS1.d) (rr' := .agg [sl gJ (nQ p.types (aE p) j (jC p.types.length R1 j)),sl cB (nR p.types (aE p) j (jR p.types.length R1 j))]);(case ha => rfl);(case hF => (repeat' (first|exact FamR.here|(apply FamR.cons;focus rfl))));(case hb => (rw [jP hl1 hjn]; have := fP (v := p.types.length) hjn (Nat.lt_succ_self _);omega));(case hR => exact fun k hk => pK hl1 hjn (by rwa [jP hl1 hjn] at hk));(case hD => exact fun k hk => vR (by rw [jP hl1 hjn] at hk;omega));(case har => exact .cons (RnV.purI inferInstance) (.cons (RnV.purI inferInstance) (.cons (RnV.purI inferInstance) (.cons (.agg (.cons (.imm (rn_rows fun k hk => (by rw [Nat.zero_add,lS (by rw [jP hl1 hjn]; omega)]))) (.cons (.own (by rw [Nat.zero_add,lS (by rw [jP hl1 hjn]; omega)])) .nil))) .nil))));(case hk => rfl);(case hr => exact RnV.purI inferInstance);(case hw => exact trivial);(case hM|hN => rfl))|(apply mF;rfl;rfl;(assumption);rfl;infer_instance;infer_instance;rfl)|(apply cO;rfl;rfl;rfl;rfl;rfl;(case hl => (simp;done));(exact (rfl:_=[_,_]))))|refine aF ?_|(refine aU ?_ ?_ <;> intro hc hq <;> try (exfalso;omega))|refine dC ?_|fail)
    refine dO (σ := Nat × List (List Bool) × Bool) (fun s => s.2.1) [1,3,4,7,8] [0,2] (fun s => [(6,bv s.2.2),(9,iv (s.1 : Int))]) (fun s => []) (fun s => s.1 ≤ (aE p)[j]!.next.length ∧ FS p.types (aE p) R s.2.1 s.2.2 (DF j s.1) ∧ (s.2.2 = false → s.2.1 = R1)) (fun s => (aE p)[j]!.next.length - s.1) (0,R1,c1) ⟨Nat.zero_le _,hS1,fun _ => rfl⟩ ?_
    rintro ⟨kk,R2,c2⟩ ⟨hk,hS2,hc2⟩
    dsimp only at hk hS2 hc2
    have hl2 := hS2.d.lo
    have hr2 := hS2.d.ro
    try dsimp only
    by_cases hkn : kk < (aE p)[j]!.next.length
    ·have hnx := w.nx j hjn _ (bT _ _ hkn)
     have hnn : ((aE p)[j]!.next[kk]!).toNat < (aE p).length := by omega
     have hix : ((aE p)[j]!.next[kk]!).toNat * (p.types.length + 1) + p.types.length < R2.length := by rw [hl2]; exact fP hnn (by omega)
     have hrix := hr2 _ hix
     have hqa := cH p.types (aE p) j (jR p.types.length R1 j)
     have hw1 := Ae (nQ p.types (aE p) j (jC p.types.length R1 j)) (jC p.types.length R2 ((aE p)[j]!.next[kk]!).toNat) (nR p.types (aE p) j (jR p.types.length R1 j)) (jR p.types.length R2 ((aE p)[j]!.next[kk]!).toNat) (by rw [cH]; exact hpl) (by rw [dJ]; exact htl)
      (by rw [cH]; exact hr2 _ (by rw [hl2]; exact fP hnn (by omega))) (by rw [dJ]; exact o8 hl2 hnn) (fun v hv => by rw [dJ] at hv;rw [cH]; exact Br w hS1.d hjn hv) (fun v hv => by rw [dJ] at hv;rw [cH,fU hl2 hnn hv]; exact hr2 _ (by rw [hl2]; exact fP hnn (by omega)))
     repeat' (first|(apply aH;first|((with_reducible apply Fk (k := 146) (D := Gd (((aE p)[j]!.next[kk]!).toNat * (p.types.length + 1))) (h := hw1));(case ha => rfl);(case hl => exact .cons (.pur (PurV.pf)) (.cons (.agg (HW (R := R2) (M := (aE p).length) (by (repeat' (first|exact FamR.here|(apply FamR.cons;focus rfl)))) (fun k hk => vR (by omega)) hl2 hnn hr2)) .nil));(case hfr|hN => rfl))|(apply qY;rfl;rfl;(case hF => (repeat' (first|exact FamR.here|(apply FamR.cons;focus rfl))));omega;omega;omega;omega;rfl;rfl)|(with_reducible apply dM (d := 11))|(apply iP;rfl;rfl;(assumption);rfl;infer_instance;infer_instance;rfl))|refine aF ?_|(refine aU ?_ ?_ <;> intro hc hq <;> try (exfalso;omega))|refine dC ?_|fail)
     ·refine iB ?_
      apply fM
      case k =>
       apply Le.fset (R := R2) (hk := hix)
       (repeat' (first|exact FamR.here|(apply FamR.cons;focus rfl)))
      rw [Dy hix]
      repeat' (first|refine aF ?_|fail)
      refine dO (σ := Nat) (fun v => yD R2 (((aE p)[j]!.next[kk]!).toNat * (p.types.length + 1)) p.types.length (nQ p.types (aE p) j (jC p.types.length R1 j)) (nR p.types (aE p) j (jR p.types.length R1 j)) v) [1,3,4,7,8,9,10] [0,2] (fun v => [(11,iv (v : Int))]) (fun v => []) (fun v => v ≤ p.types.length) (fun v => p.types.length - v) (0) (Nat.zero_le _) ?_
      intro v hv
      try dsimp only
      have hjl := eO R2 (((aE p)[j]!.next[kk]!).toNat * (p.types.length + 1)) p.types.length (nQ p.types (aE p) j (jC p.types.length R1 j)) (nR p.types (aE p) j (jR p.types.length R1 j)) v
      have hal := dJ p.types (aE p) j (jC p.types.length R1 j)
      by_cases hvn : v < p.types.length
      ·have hav := Br w hS1.d hjn hvn
       have hjr : (yD R2 (((aE p)[j]!.next[kk]!).toNat * (p.types.length + 1)) p.types.length (nQ p.types (aE p) j (jC p.types.length R1 j)) (nR p.types (aE p) j (jR p.types.length R1 j)) v)[((aE p)[j]!.next[kk]!).toNat * (p.types.length + 1) + v]!.length = (aE p).length := by
        rw [fJ _ _ _ _ _ _ _ (by omega),if_neg (by omega),if_neg (by omega)]; exact hr2 _ (by omega)
       repeat' (first|(apply aH;first|(apply qY;rfl;rfl;(case hF => (repeat' (first|exact FamR.here|(apply FamR.cons;focus rfl))));omega;omega;omega;omega;rfl;rfl)|(with_reducible apply dM (d := 84))|(apply mF;rfl;rfl;(assumption);rfl;infer_instance;infer_instance;rfl)|(apply iP;rfl;rfl;(assumption);rfl;infer_instance;infer_instance;rfl))|refine aF ?_|(refine aU ?_ ?_ <;> intro hc hq <;> try (exfalso;omega))|refine dC ?_|fail)
       refine iB ?_
       apply fM
       case k =>
        apply Le.fset (R := yD R2 (((aE p)[j]!.next[kk]!).toNat * (p.types.length + 1)) p.types.length (nQ p.types (aE p) j (jC p.types.length R1 j)) (nR p.types (aE p) j (jR p.types.length R1 j)) v) (hk := (by omega))
        (repeat' (first|exact FamR.here|(apply FamR.cons;focus rfl)))
       rw [DY hix hvn]
       repeat' (first|refine aF ?_|fail)
       (apply bS (v + 1);focus (refine Le.renF0 [(0,0),(2,2)] (R := ?qA2) (hF := ?qF2) (hz := ?qz2) (hm := ?qm2) (hn := ?qn2) (h1 := ?q12) (h2 := ?q22);(case qF2 => (repeat' (first|exact FamR.here|(apply FamR.cons;focus rfl))));(case qz2 => (simp only [eO]));(case qm2 => rfl);(case qn2 => decide);all_goals (repeat' (first|exact trivial|refine And.intro ⟨_,rfl,?_⟩ ?_|refine And.intro ⟨_,_,rfl,rfl,?_⟩ ?_|exact RnL.purI inferInstance|exact RnV.purI inferInstance|exact RnV.optr rfl|exact RnV.imm (nX (M := (aE p).length) (Nat.le_refl _) (by show aX + (yD _ _ _ _ _ _).length = _; rw [eO,hl2]))))))
       ·show v + 1 ≤ p.types.length;omega
       ·show p.types.length - (v + 1) < p.types.length - v;omega
      ·repeat' (first | refine aF ?_ | (refine aU ?_ ?_ <;> intro hc hq <;> try (exfalso; omega))|fail)
       have hvN : v = p.types.length := by omega
       subst hvN
       have hw3 : CL (nQ p.types (aE p) j (jC p.types.length R1 j)) (jC p.types.length R2 ((aE p)[j]!.next[kk]!).toNat) (nR p.types (aE p) j (jR p.types.length R1 j)) (jR p.types.length R2 ((aE p)[j]!.next[kk]!).toNat) = false := by assumption
       (apply bS (kk + 1,_,true);focus (refine Le.renF0 [(0,0),(2,2)] (R := ?qA3) (hF := ?qF3) (hz := ?qz3) (hm := ?qm3) (hn := ?qn3) (h1 := ?q13) (h2 := ?q23);(case qF3 => (repeat' (first|exact FamR.here|(apply FamR.cons;focus rfl))));(case qz3 => (rfl));(case qm3 => rfl);(case qn3 => decide);all_goals (repeat' (first|exact trivial|refine And.intro ⟨_,rfl,?_⟩ ?_|refine And.intro ⟨_,_,rfl,rfl,?_⟩ ?_|exact RnL.purI inferInstance|exact RnV.purI inferInstance|exact RnV.optr rfl|exact RnV.imm (nX (M := (aE p).length) (Nat.le_refl _) (by show aX + (yD _ _ _ _ _ _).length = _; rw [eO,hl2]))))))
       ·exact ⟨(by show kk + 1 ≤ (aE p)[j]!.next.length;omega),hS2.hit w (DF j (kk + 1)) hS1.d hjn hkn hw3,fun h => (by cases h)⟩
       ·show (aE p)[j]!.next.length - (kk + 1) < (aE p)[j]!.next.length - kk;omega
     ·(apply bS (kk + 1, R2, c2); focus (refine Le.renF0 [(0, 0), (2, 2)] (R := ?qA4) (hF := ?qF4) (hz := ?qz4) (hm := ?qm4) (hn := ?qn4) (h1 := ?q14) (h2 := ?q24); (case qF4 => (repeat' (first | exact FamR.here | (apply FamR.cons; focus rfl)))); (case qz4 => (rfl)); (case qm4 => rfl); (case qn4 => decide); all_goals (repeat' (first | exact trivial | refine And.intro ⟨_, rfl, ?_⟩ ?_ | refine And.intro ⟨_, _, rfl, rfl, ?_⟩ ?_ | exact RnL.purI inferInstance | exact RnV.purI inferInstance | exact RnV.optr rfl | exact RnV.imm (nX (M := (aE p).length) (Nat.le_refl _) (by show aX + R2.length = _; rw [hl2]))))))
      ·refine ⟨(by show kk + 1 ≤ (aE p)[j]!.next.length;omega),hS2.skip (i := j) (k := kk) hc2 (by assumption) (fun i' k' _ _ hd => by unfold DF at hd ⊢; omega),hc2⟩
      ·show (aE p)[j]!.next.length - (kk + 1) < (aE p)[j]!.next.length - kk;omega
    ·repeat' (first | refine aF ?_ | (refine aU ?_ ?_ <;> intro hc hq <;> try (exfalso; omega))|fail)
     (apply bS (j + 1,R2,c2);focus (refine Le.renF0 [(0,0)] (R := ?qA5) (hF := ?qF5) (hz := ?qz5) (hm := ?qm5) (hn := ?qn5) (h1 := ?q15) (h2 := ?q25);(case qF5 => (repeat' (first|exact FamR.here|(apply FamR.cons;focus rfl))));(case qz5 => (rfl));(case qm5 => rfl);(case qn5 => decide);all_goals (repeat' (first|exact trivial|refine And.intro ⟨_,rfl,?_⟩ ?_|refine And.intro ⟨_,_,rfl,rfl,?_⟩ ?_|exact RnL.purI inferInstance|exact RnV.purI inferInstance|exact RnV.optr rfl|exact RnV.imm (nX (M := (aE p).length) (Nat.le_refl _) (by show aX + R2.length = _; rw [hl2]))))))
     ·refine ⟨(by show j + 1 ≤ (aE p).length; omega), hS2.mono fun i' k' _ hk' hd => ?_⟩
      unfold DF at hd ⊢
      by_cases e : i' = j
      ·subst e;omega
      ·omega
     ·show (aE p).length - (j + 1) < (aE p).length - j;omega
   ·repeat' (first | refine aF ?_ | (refine aU ?_ ?_ <;> intro hc hq <;> try (exfalso; omega))|fail)
    (apply bS (R1,c1);focus (refine Le.renF0 [(0,0)] (R := ?qA6) (hF := ?qF6) (hz := ?qz6) (hm := ?qm6) (hn := ?qn6) (h1 := ?q16) (h2 := ?q26);(case qF6 => (repeat' (first|exact FamR.here|(apply FamR.cons;focus rfl))));(case qz6 => (rfl));(case qm6 => rfl);(case qn6 => decide);all_goals (repeat' (first|exact trivial|refine And.intro ⟨_,rfl,?_⟩ ?_|refine And.intro ⟨_,_,rfl,rfl,?_⟩ ?_|exact RnL.purI inferInstance|exact RnV.purI inferInstance|exact RnV.optr rfl|exact RnV.imm (nX (M := (aE p).length) (Nat.le_refl _) (by show aX + R1.length = _; rw [hl1]))))))
    ·exact (hS1.fin (by omega)).1
    ·exact (hS1.fin (by omega)).2
instance (s : List (List Bool) × List Bool) : Pur (JD s):=⟨by show ((sl gJ s.1).pur && ((sl cB s.2).pur && true)) = true;rw [bD,bD]; rfl⟩
def Jm (ts : List Int) (pts : List Pnt) (Aa : List Nat) (i k : Nat) : List Iss := ((List.range k).filter (Df ts pts Aa i)).map (fun (v : Nat) => ⟨i,1,v⟩)
def IC (pts : List Pnt) (cf : List Bool) (i k : Nat) : List Iss := ((List.range k).filter (fun (l : Nat) => cf[l]!)).map (fun (l : Nat) => ⟨i,Io pts l,l⟩)
theorem HK {ts:List Int}{pts:List Pnt}{Aa:List Nat}{i k:Nat}(h:Df ts pts Aa i k = true):Jm ts pts Aa i (k + 1) = Jm ts pts Aa i k ++ [⟨i,1,k⟩]:=by
 unfold Jm;rw [gW,if_pos h,List.map_append]; rfl
theorem w7 {ts:List Int}{pts:List Pnt}{Aa:List Nat}{i k:Nat}(h:Df ts pts Aa i k = false):Jm ts pts Aa i (k + 1) = Jm ts pts Aa i k:=by
 unfold Jm;rw [gW,if_neg (by rw [h]; decide),List.append_nil]
theorem Bk {pts:List Pnt}{cf:List Bool}{i k:Nat}(h:cf[k]! = true):IC pts cf i (k + 1) = IC pts cf i k ++ [⟨i,Io pts k,k⟩]:=by
 unfold IC;rw [gW,if_pos h,List.map_append]; rfl
theorem EV {pts:List Pnt}{cf:List Bool}{i k:Nat}(h:cf[k]! = false):IC pts cf i (k + 1) = IC pts cf i k:=by
 unfold IC;rw [gW,if_neg (by rw [h]; decide),List.append_nil]
theorem C1 (p:Prg) (f:Flows p.types (aE p)) (hs:aI p.body ≤ 1048576) (w:WG p.types (aE p)) (hr:Rch (aE p)):PC Tryz.prog 135 [bY p,sl gJ (c6 p.types.length (aE p).length f.Al)] (fun r => r = sl jX f.iss):=by
 have hpl := w.pl
 have hp0 := w.p0
 have htl := w.tl
 have hfa := k3 p true f.Aa hs w hr (by unfold n8;exact f.ga)
 have hfm := k3 p false f.Am hs w hr (by unfold n8;exact f.gm)
 have hfl := DT p f.Af f.Ap hs w f.gf f.gp
 have hra := eY p.types.length (aE p).length f.Aa
 have hrm := eY p.types.length (aE p).length f.Am
 have hrl := eY p.types.length (aE p).length f.Al
 have hfll : ((List.range (aE p).length).map (kI p.types.length (aE p).length f.Af f.Ap)).length = (aE p).length := by simp
 refine aC Tryz.func135 Tryz.ntmps135 ?_
 repeat' (first|(apply aH;first|(apply aA (k := 27);rfl;exact jT p hs;exact Pur.pf;rfl)|(apply aA (k := 53) (d := 20);rfl;exact hfa;exact Pur.pf;rfl)|(apply aA (k := 53) (d := 22);rfl;exact hfm;exact Pur.pf;rfl)|(apply aA (k := 106);rfl;exact hfl;exact Pur.pf;rfl))|refine aF ?_|fail)
 refine aL (σ := Nat × List Iss × Nat) [1,2,6,7,8,9] [0] (fun s => [(10,iv (s.1 : Int)),(5,.own 1 0 s.2.2 3)]) (fun s => [(1,some (flat jX s.2.1))]) (fun s => s.1 ≤ (aE p).length ∧ s.2.1 = xP p.types (aE p) f.Aa f.Am f.Al f.Af f.Ap s.1 ∧ s.2.2 = s.2.1.length ∧ s.2.2 ≤ 67 * s.1) (fun s => (aE p).length - s.1) (0,[],0) ⟨Nat.zero_le _,rfl,rfl,Nat.le_refl _⟩ ?_
 rintro ⟨i,L,m⟩ ⟨hi,hL,hm,hmb⟩
 dsimp only at hi hL hm hmb
 try dsimp only
 by_cases hin : i < (aE p).length
 ·repeat' (first | refine aF ?_ | (refine aU ?_ ?_ <;> intro hc hq <;> try (exfalso; omega))|fail)
  refine aL (σ := Nat × List Iss × Nat) [1,2,6,7,8,9,10] [0] (fun s => [(11,iv (s.1 : Int)),(5,.own 1 0 s.2.2 3)]) (fun s => [(1,some (flat jX s.2.1))]) (fun s => s.1 ≤ p.types.length ∧ s.2.1 = L ++ Jm p.types (aE p) f.Aa i s.1 ∧ s.2.2 = s.2.1.length ∧ s.2.2 ≤ 67 * i + s.1) (fun s => p.types.length - s.1) (0,L,m) ⟨Nat.zero_le _,(List.append_nil L).symm,hm,hmb⟩ ?_
  rintro ⟨v,L2,m2⟩ ⟨hv,hL2,hm2,hmb2⟩
  dsimp only at hv hL2 hm2 hmb2
  try dsimp only
  by_cases hvn : v < p.types.length
  ·have hga := jJ p.types.length (aE p).length f.Aa i v hin hvn
   have hgl : (c6 p.types.length (aE p).length f.Aa)[i]!.length = p.types.length := by rw [e7 _ _ _ _ hin]; simp
   repeat' (first|(apply aH;(apply aA (k := 139);rfl;(apply lP <;> (omega));exact Pur.pf;rfl))|refine aF ?_|(refine aU ?_ ?_ <;> intro hc hq <;> try (exfalso;omega))|(refine cE ?_ ?_ <;> intro hg hq <;> try (exfalso;omega))|refine dC ?_|fail)
   ·(refine bS (v + 1, L2 ++ [⟨i, 1, v⟩], m2 + 1) (Le.renA [(0, 0), (1, 3)]) ?_ ?_)
    ·have hu : Df p.types (aE p) f.Aa i v = true := by
      unfold Df;rw [← hga,decide_eq_false (by assumption),(by assumption : (c6 p.types.length (aE p).length f.Aa)[i]![v]! = false)]; rfl
     exact ⟨(by show v + 1 ≤ p.types.length;omega),(by show L2 ++ [⟨i,1,v⟩] = _; rw [hL2,List.append_assoc,← HK hu]),(by show m2 + 1 = (L2 ++ [_]).length;rw [List.length_append,List.length_singleton,hm2]),(by show m2 + 1 ≤ 67 * i + (v + 1);omega)⟩
    ·show p.types.length - (v + 1) < p.types.length - v;omega
   ·(refine bS (v + 1, L2, m2) (Le.renA [(0, 0), (1, 1)]) ?_ ?_)
    ·have hu : Df p.types (aE p) f.Aa i v = false := by
      unfold Df;rw [← hga,(by assumption : (c6 p.types.length (aE p).length f.Aa)[i]![v]! = true)]; simp
     exact ⟨(by show v + 1 ≤ p.types.length;omega),(by show L2 = _; rw [w7 hu]; exact hL2),hm2,(by show m2 ≤ 67 * i + (v + 1);omega)⟩
    ·show p.types.length - (v + 1) < p.types.length - v;omega
   ·(refine bS (v + 1, L2, m2) (Le.renA [(0, 0), (1, 1)]) ?_ ?_)
    ·have hu : Df p.types (aE p) f.Aa i v = false := by
      unfold Df;rw [decide_eq_true (by assumption)]; rfl
     exact ⟨(by show v + 1 ≤ p.types.length;omega),(by show L2 = _; rw [w7 hu]; exact hL2),hm2,(by show m2 ≤ 67 * i + (v + 1);omega)⟩
    ·show p.types.length - (v + 1) < p.types.length - v;omega
  ·have hvN : v = p.types.length := by omega
   have hset := w.set i hin
   have hy := w.y i hin
   have hfi : ((List.range (aE p).length).map (kI p.types.length (aE p).length f.Af f.Ap))[i]! = kI p.types.length (aE p).length f.Af f.Ap i := bH _ _ _ hin
   have hgm : (c6 p.types.length (aE p).length f.Am)[i]!.length = p.types.length := by rw [e7 _ _ _ _ hin]; simp
   have hgl : (c6 p.types.length (aE p).length f.Al)[i]!.length = p.types.length := by rw [e7 _ _ _ _ hin]; simp
   have hf2 : (kI p.types.length (aE p).length f.Af f.Ap i).2.length = (aE p).length := by simp [kI]
   have hf1 : (kI p.types.length (aE p).length f.Af f.Ap i).1.length = p.types.length := by simp [kI]
   have hf3 : ∀ v, v < p.types.length → (kI p.types.length (aE p).length f.Af f.Ap i).1[v]!.length = (kI p.types.length (aE p).length f.Af f.Ap i).2.length := fun v hv => by
    rw [hf2]; unfold kI;dsimp only;rw [bH _ _ _ hv]; simp
   have hacc := tM p.types (aE p)[i]! (c6 p.types.length (aE p).length f.Am)[i]! htl hgm hset.1 hy
   have hlv := Dm p.types (aE p)[i]! ((List.range (aE p).length).map (kI p.types.length (aE p).length f.Af f.Ap))[i]!.1 ((List.range (aE p).length).map (kI p.types.length (aE p).length f.Af f.Ap))[i]!.2 (c6 p.types.length (aE p).length f.Al)[i]! htl (by rw [hfi,hf2]; exact hpl) hgl (by rw [hfi]; exact hf1) (by rw [hfi]; exact hf3)
   have hlvl : (Cs p.types (aE p)[i]! ((List.range (aE p).length).map (kI p.types.length (aE p).length f.Af f.Ap))[i]!.1 (c6 p.types.length (aE p).length f.Al)[i]! ((List.range (aE p).length).map (kI p.types.length (aE p).length f.Af f.Ap))[i]!.2.length).length = (aE p).length := by unfold Cs;rw [List.length_map,List.length_range,hfi,hf2]
   have hcn := rM (aE p) (gM p.types (aE p)[i]! (c6 p.types.length (aE p).length f.Am)[i]![(aT (aE p)[i]!).toNat]!) ((List.range (aE p).length).map (kI p.types.length (aE p).length f.Af f.Ap))[i]!.1 ((List.range (aE p).length).map (kI p.types.length (aE p).length f.Af f.Ap))[i]!.2 (Cs p.types (aE p)[i]! ((List.range (aE p).length).map (kI p.types.length (aE p).length f.Af f.Ap))[i]!.1 (c6 p.types.length (aE p).length f.Al)[i]! ((List.range (aE p).length).map (kI p.types.length (aE p).length f.Af f.Ap))[i]!.2.length) hpl (by have := wK p.types (aE p)[i]! (c6 p.types.length (aE p).length f.Am)[i]![(aT (aE p)[i]!).toNat]!; omega) (by rw [hfi]; exact hf2) hlvl
   have hcf : Jf (aE p) (gM p.types (aE p)[i]! (c6 p.types.length (aE p).length f.Am)[i]![(aT (aE p)[i]!).toNat]!) ((List.range (aE p).length).map (kI p.types.length (aE p).length f.Af f.Ap))[i]!.2 (Cs p.types (aE p)[i]! ((List.range (aE p).length).map (kI p.types.length (aE p).length f.Af f.Ap))[i]!.1 (c6 p.types.length (aE p).length f.Al)[i]! ((List.range (aE p).length).map (kI p.types.length (aE p).length f.Af f.Ap))[i]!.2.length) = HU p.types (aE p) f.Am f.Al f.Af f.Ap i := by
    rw [hfi,hf2]; rfl
   have hcl : (HU p.types (aE p) f.Am f.Al f.Af f.Ap i).length = (aE p).length := by unfold HU;rw [uE]
   repeat' (first|(apply aH;first|(apply aA (k := 171);rfl;exact hacc;exact Pur.pf;rfl)|(apply aA (k := 173);rfl;exact hlv;exact Pur.pf;rfl)|(apply aA (k := 172);rfl;exact hcn;exact Pur.pf;rfl)|(with_reducible apply dM (d := 14)))|refine aF ?_|(refine aU ?_ ?_ <;> intro hc hq <;> try (exfalso;omega))|refine dC ?_|fail)
   refine iB ?_
   rw [hcf]
   repeat' (first|refine aF ?_|fail)
   refine aL (σ := Nat × List Iss × Nat) [1,2,6,7,8,9,10,13] [0] (fun s => [(14,iv (s.1 : Int)),(5,.own 1 0 s.2.2 3)]) (fun s => [(1,some (flat jX s.2.1))]) (fun s => s.1 ≤ (aE p).length ∧ s.2.1 = L2 ++ IC (aE p) (HU p.types (aE p) f.Am f.Al f.Af f.Ap i) i s.1 ∧ s.2.2 = s.2.1.length ∧ s.2.2 ≤ 67 * i + 6 + s.1) (fun s => (aE p).length - s.1) (0,L2,m2) ⟨Nat.zero_le _,(List.append_nil L2).symm,hm2,by show m2 ≤ 67 * i + 6 + 0;omega⟩ ?_
   rintro ⟨l,L3,m3⟩ ⟨hl,hL3,hm3,hmb3⟩
   dsimp only at hl hL3 hm3 hmb3
   try dsimp only
   by_cases hln : l < (aE p).length
   ·repeat' (first | refine aF ?_ | (refine aU ?_ ?_ <;> intro hc hq <;> try (exfalso; omega))|fail)
    ·(refine bS (l + 1, L3, m3) (Le.renA [(0, 0), (1, 1)]) ?_ ?_)
     ·exact ⟨(by show l + 1 ≤ (aE p).length;omega),(by show L3 = _; rw [EV (by assumption)]; exact hL3),hm3,(by show m3 ≤ 67 * i + 6 + (l + 1);omega)⟩
     ·show (aE p).length - (l + 1) < (aE p).length - l;omega
    ·(refine bS (l + 1, L3 ++ [⟨i, 3, l⟩], m3 + 1) (Le.renA [(0, 0), (1, 3)]) ?_ ?_)
     ·have hk : Io (aE p) l = 3 := by unfold Io; rw [if_pos (by assumption)]
      exact ⟨(by show l + 1 ≤ (aE p).length;omega),(by show L3 ++ [⟨i,3,l⟩] = _; rw [hL3,List.append_assoc,← hk,← Bk (by assumption)]),(by show m3 + 1 = (L3 ++ [_]).length;rw [List.length_append,List.length_singleton,hm3]),(by show m3 + 1 ≤ 67 * i + 6 + (l + 1);omega)⟩
     ·show (aE p).length - (l + 1) < (aE p).length - l;omega
    ·(refine bS (l + 1, L3 ++ [⟨i, 2, l⟩], m3 + 1) (Le.renA [(0, 0), (1, 3)]) ?_ ?_)
     ·have hk : Io (aE p) l = 2 := by unfold Io; rw [if_neg (by assumption)]
      exact ⟨(by show l + 1 ≤ (aE p).length;omega),(by show L3 ++ [⟨i,2,l⟩] = _; rw [hL3,List.append_assoc,← hk,← Bk (by assumption)]),(by show m3 + 1 = (L3 ++ [_]).length;rw [List.length_append,List.length_singleton,hm3]),(by show m3 + 1 ≤ 67 * i + 6 + (l + 1);omega)⟩
     ·show (aE p).length - (l + 1) < (aE p).length - l;omega
   ·repeat' (first | refine aF ?_ | (refine aU ?_ ?_ <;> intro hc hq <;> try (exfalso; omega))|fail)
    (refine bS (i + 1,L3,m3) (Le.renA [(0,0),(1,1)]) ?_ ?_)
    ·refine ⟨(by show i + 1 ≤ (aE p).length; omega), ?_, hm3, (by show m3 ≤ 67 * (i + 1); omega)⟩
     show L3 = xP p.types (aE p) f.Aa f.Am f.Al f.Af f.Ap (i + 1)
     rw [s8,← IQ w f hin,hL3,hL2,hL,hvN,show l = (aE p).length by omega,List.append_assoc]
     rfl
    ·show (aE p).length - (i + 1) < (aE p).length - i;omega
 ·repeat' (first | refine aF ?_ | (refine aU ?_ ?_ <;> intro hc hq <;> try (exfalso; omega))|fail)
  have hiN : i = (aE p).length := by omega
  refine bW (Le.frzD (d := 4) (i := 1) rfl rfl) ?_
  refine aO rfl ⟨?_,(by (exact bD _ _))⟩
  simp only [aQ]
  rw [hm,hL,hiN]; rfl
theorem Fp (p:Prg) (f:Flows p.types (aE p)) (hl:p.types.length ≤ 1048576) (hs:aI p.body ≤ 1048576):PC Tryz.prog 88 [bY p] (fun r => r = sl jX (rR p f)):=by
 unfold rR
 cases hv : bE p
 ·have hval := iD p hl (by omega)
  rw [hv] at hval
  refine aC Tryz.func88 Tryz.ntmps88 ?_
  repeat' (first|(apply aH;first|(apply aA (k := 40);rfl;exact hval;exact Pur.pf;rfl)|(apply aY (t := _);rfl;rfl;rfl;(rfl);rfl;rfl))|refine aF ?_|fail)
  exact aO rfl ⟨rfl,rfl⟩
 ·have w := WG.of_valid hv
  have hr := Rch.of p
  have hval := iD p hl (by omega)
  rw [hv] at hval
  have hlv := DE p f.Al hs w f.gl
  have hck := C1 p f hs w hr
  refine aC Tryz.func88 Tryz.ntmps88 ?_
  repeat' (first|(apply aH;first|(apply aA (k := 40);rfl;exact hval;exact Pur.pf;rfl)|(apply aA (k := 136);rfl;exact hlv;exact Pur.pf;rfl)|(apply aA (k := 135);rfl;exact hck;exact Pur.pf;rfl))|refine aF ?_|refine dC ?_|fail)
  exact aO rfl ⟨rfl,(by (exact bD _ _))⟩
theorem AA (p:Prg) (f:Flows p.types (aE p)) (hl:p.types.length ≤ 1048576) (hs:aI p.body ≤ 1048576):PC Tryz.prog 54 [bY p] (fun r => r = bv (bE p && (rR p f).isEmpty)):=by
 have hval := iD p hl (by omega)
 refine aC Tryz.func54 Tryz.ntmps54 ?_
 repeat' (first|(apply aH;first|(apply aA (k := 88);rfl;exact Fp p f hl hs;exact Pur.pf;rfl)|(apply aA (k := 40);rfl;exact hval;exact Pur.pf;rfl))|refine aF ?_|(refine cE ?_ ?_ <;> intro hg hq <;> try (exfalso;omega))|fail)
 all_goals generalize rR p f = L at *
 all_goals refine aO rfl ⟨?_,rfl⟩
 all_goals simp only [aQ]
 ·rw [show bE p = true by assumption]
  cases L with
  | nil => rfl
  | cons a b => simp;omega
 ·rw [show bE p = false by assumption]; rfl
def st (op x y n : Int) : AL.Stmt := .mk op x y n [] []
theorem wQ {xs:List AL.Stmt}{m:Nat}{s:AL.Stmt}(hm:m = xs.length):((flat aB xs).drop 0).take (m * 6) ++ [iv s.op,iv s.x,iv s.y,iv s.n,sl aB s.th,sl aB s.el] = flat aB (xs ++ [s]) := iJ hm (e8 s).symm
theorem BH {w:World}{bad:Nat → Prop}{ι:Pl}:∀ {cs cs':List AV},All2 (fun c c' => c' = c ∨ c' = oE c) cs cs' → ∀ {b β:Nat},RdC w bad ι cs b β → RdC w bad ι cs' b β
 | _,_,.nil,_,_,h => h
 | _, _, .cons h1 h2, b, β, h => by
  simp only [RdC] at h ⊢
  obtain ⟨⟨x,q1,q2,q3⟩,q4⟩ := h
  refine ⟨⟨x,q1,q2,?_⟩,BH h2 q4⟩
  rcases h1 with rfl|rfl
  ·exact q3
  ·exact kR q3
theorem A9:∀ (l:List AV){a b:List AV},All2 (fun c c' => c' = c ∨ c' = oE c) a b → All2 (fun c c' => c' = c ∨ c' = oE c) (l ++ a) (l ++ b)
 | [],_,_,h => h
 | _ :: l,_,_,h => .cons (.inl rfl) (A9 l h)
theorem nY {α:Type}{p q:α → Prop}{F:α → AS}{s s':AS}(L:Le s s') (h:∃ j,p j ∧ q j ∧ Le s' (F j)):∃ j,p j ∧ q j ∧ Le s (F j):=by
 obtain ⟨j,h1,h2,h3⟩ := h
 exact ⟨j,h1,h2,L.trans h3⟩
theorem Le.stmtN {ts:List (Nat × AV)}{hs:List (Nat × Option (List AV))}{n i:Nat}{z0:Lo}{xs:List AL.Stmt}(s:AL.Stmt){m:Nat}{a b:AV}(hm:m = xs.length)
  (ha : a = sl aB s.th ∨ (a = .v (.slice none 0 0) ∧ s.th = [])) (hb : b = sl aB s.el ∨ (b = .v (.slice none 0 0) ∧ s.el = []))
  (hi : aP hs i = some (((flat aB xs).drop 0).take (m * 6) ++ List.take (1 * 6) [iv s.op,iv s.x,iv s.y,iv s.n,a,b])) : Le ⟨ts,hs,n,z0⟩ ⟨ts,(i,some (flat aB (xs ++ [s]))) :: hs,n,z0⟩ := by
 have e : flat aB (xs ++ [s]) = ((flat aB xs).drop 0).take (m * 6) ++ [iv s.op,iv s.x,iv s.y,iv s.n,sl aB s.th,sl aB s.el] := (wQ hm).symm
 have k : All2 (fun c c' => c' = c ∨ c' = oE c) (((flat aB xs).drop 0).take (m * 6) ++ List.take (1 * 6) [iv s.op, iv s.x, iv s.y, iv s.n, a, b]) (flat aB (xs ++ [s])) := by
  rw [e]
  refine A9 _ (.cons (.inl rfl) (.cons (.inl rfl) (.cons (.inl rfl) (.cons (.inl rfl) (.cons ?_ (.cons ?_ .nil))))))
  ·rcases ha with h | ⟨h, h2⟩
   ·exact .inl h.symm
   ·refine .inr ?_; rw [h2,h]; rfl
  ·rcases hb with h | ⟨h, h2⟩
   ·exact .inl h.symm
   ·refine .inr ?_; rw [h2,h]; rfl
 refine Le.cells hi ?_ fun w bad ι b β h => BH k h
 rw [e]; simp
theorem A1 (mm:Nat) (hmm:mm ≤ 1048576) (copy_ih:∀ l,aI l < mm → PC Tryz.prog 87 [sl aB l] (fun r => r = sl aB l)) (l:List AL.Stmt) (hs:aI l ≤ mm):PC Tryz.prog 87 [sl aB l] (fun r => r = sl aB l):=by
 have hlen := bR l
 refine aC Tryz.func87 Tryz.ntmps87 ?_
 repeat' (first|refine aF ?_|fail)
 refine aL (σ := Nat × List AL.Stmt) [0] [] (fun k => [(4,iv (k.1 : Int)),(3,.own 0 0 k.1 6)]) (fun k => [(0,some (flat aB k.2))]) (fun k => k.1 ≤ l.length ∧ k.2 = l.take k.1) (fun k => l.length - k.1) (0,[]) ⟨by omega,rfl⟩ ?_
 rintro ⟨k,xs⟩ ⟨hk,hxs⟩
 dsimp only at hk hxs ⊢
 have hck := cZ l k
 have hct := dX l[k]!
 have hln : xs.length = k := by rw [hxs,List.length_take]; omega
 repeat' (first|(apply aH;first|(apply aY (t := _);rfl;rfl;rfl;(exact (rfl:_=some [_,_,_,_,_,_]));rfl;rfl)|(apply aA (k := 87);rfl;(apply copy_ih <;> (omega));exact Pur.pf;rfl))|refine aF ?_|(refine aU ?_ ?_ <;> intro hc hq <;> try (exfalso;omega))|fail)
 ·(refine bS (k + 1, _) (Le.renA [(0, 3)]) ?_ ?_)
  ·exact ⟨by dsimp only;omega,by dsimp only;rw [hxs,bQ l k (by omega)]⟩
  ·dsimp only;omega
 ·have hel : l[k]!.el = [] := List.eq_nil_of_length_eq_zero (by omega)
  refine nY (Le.stmtN (i := 3) l[k]! hln.symm (.inl rfl) (.inr ⟨rfl,hel⟩) rfl) ?_
  (refine bS (k + 1,_) (Le.renA [(0,3)]) ?_ ?_)
  ·exact ⟨by dsimp only;omega,by dsimp only;rw [hxs,bQ l k (by omega)]⟩
  ·dsimp only;omega
 ·have hth : l[k]!.th = [] := List.eq_nil_of_length_eq_zero (by omega)
  refine nY (Le.stmtN (i := 3) l[k]! hln.symm (.inr ⟨rfl,hth⟩) (.inl rfl) rfl) ?_
  (refine bS (k + 1,_) (Le.renA [(0,3)]) ?_ ?_)
  ·exact ⟨by dsimp only;omega,by dsimp only;rw [hxs,bQ l k (by omega)]⟩
  ·dsimp only;omega
 ·have hth : l[k]!.th = [] := List.eq_nil_of_length_eq_zero (by omega)
  have hel : l[k]!.el = [] := List.eq_nil_of_length_eq_zero (by omega)
  refine nY (Le.stmtN (i := 3) l[k]! hln.symm (.inr ⟨rfl,hth⟩) (.inr ⟨rfl,hel⟩) rfl) ?_
  (refine bS (k + 1,_) (Le.renA [(0,3)]) ?_ ?_)
  ·exact ⟨by dsimp only;omega,by dsimp only;rw [hxs,bQ l k (by omega)]⟩
  ·dsimp only;omega
 ·have hke : k = l.length := by omega
  (refine bW (Le.frzD (d := 2) (i := 0) rfl rfl) ?_; refine aO rfl ?_)
  refine ⟨?_,Pur.pf⟩
  rw [hxs,hke,List.take_length]; rfl
theorem IZ (l:List AL.Stmt) (hb:aI l ≤ 1048576):PC Tryz.prog 87 [sl aB l] (fun r => r = sl aB l):=by
 have key : ∀ m, m ≤ 1048576 → ∀ l, aI l ≤ m → PC Tryz.prog 87 [sl aB l] (fun r => r = sl aB l) := by
  intro m
  induction m with
  | zero => intro hm l hl;exact A1 0 hm (fun l h => by omega) l hl
  | succ m ih => intro hm l hl;exact A1 (m + 1) hm (fun l h => ih (by omega) l (by omega)) l hl
 exact key (aI l) hb l (Nat.le_refl _)
theorem Gm (l:List AL.Stmt) (hs:aI l ≤ 1048576):MC Tryz.prog 87 [sl aB l] [] 0 (fun _:Unit => True) (fun _ => .own 0 0 l.length 6) (fun _ => [(0,some (flat aB l))]):=by
 have hlen := bR l
 refine c8 Tryz.func87 Tryz.ntmps87 ?_
 repeat' (first|refine aF ?_|fail)
 refine aL (σ := Nat × List AL.Stmt) [0] [] (fun k => [(4,iv (k.1 : Int)),(3,.own 0 0 k.1 6)]) (fun k => [(0,some (flat aB k.2))]) (fun k => k.1 ≤ l.length ∧ k.2 = l.take k.1) (fun k => l.length - k.1) (0,[]) ⟨by omega,rfl⟩ ?_
 rintro ⟨k,xs⟩ ⟨hk,hxs⟩
 dsimp only at hk hxs ⊢
 have hck := cZ l k
 have hct := dX l[k]!
 have hln : xs.length = k := by rw [hxs,List.length_take]; omega
 repeat' (first|(apply aH;first|(apply aY (t := _);rfl;rfl;rfl;(exact (rfl:_=some [_,_,_,_,_,_]));rfl;rfl)|(apply aA (k := 87);rfl;(apply IZ <;> (omega));exact Pur.pf;rfl))|refine aF ?_|(refine aU ?_ ?_ <;> intro hc hq <;> try (exfalso;omega))|fail)
 ·(refine bS (k + 1, _) (Le.renA [(0, 3)]) ?_ ?_)
  ·exact ⟨by dsimp only;omega,by dsimp only;rw [hxs,bQ l k (by omega)]⟩
  ·dsimp only;omega
 ·have hel : l[k]!.el = [] := List.eq_nil_of_length_eq_zero (by omega)
  refine nY (Le.stmtN (i := 3) l[k]! hln.symm (.inl rfl) (.inr ⟨rfl,hel⟩) rfl) ?_
  (refine bS (k + 1,_) (Le.renA [(0,3)]) ?_ ?_)
  ·exact ⟨by dsimp only;omega,by dsimp only;rw [hxs,bQ l k (by omega)]⟩
  ·dsimp only;omega
 ·have hth : l[k]!.th = [] := List.eq_nil_of_length_eq_zero (by omega)
  refine nY (Le.stmtN (i := 3) l[k]! hln.symm (.inr ⟨rfl,hth⟩) (.inl rfl) rfl) ?_
  (refine bS (k + 1,_) (Le.renA [(0,3)]) ?_ ?_)
  ·exact ⟨by dsimp only;omega,by dsimp only;rw [hxs,bQ l k (by omega)]⟩
  ·dsimp only;omega
 ·have hth : l[k]!.th = [] := List.eq_nil_of_length_eq_zero (by omega)
  have hel : l[k]!.el = [] := List.eq_nil_of_length_eq_zero (by omega)
  refine nY (Le.stmtN (i := 3) l[k]! hln.symm (.inr ⟨rfl,hth⟩) (.inr ⟨rfl,hel⟩) rfl) ?_
  (refine bS (k + 1,_) (Le.renA [(0,3)]) ?_ ?_)
  ·exact ⟨by dsimp only;omega,by dsimp only;rw [hxs,bQ l k (by omega)]⟩
  ·dsimp only;omega
 ·have hke : k = l.length := by omega
  have hxl : xs = l := by rw [hxs,hke,List.take_length]
  subst hke
  refine aO rfl ?_
  refine eS () trivial ?_ ⟨sE ?_,trivial⟩
  ·rfl
  ·rw [hxl]
theorem Dw {l:List AL.Stmt}{x0:Operand}(ha0:ev (lk tsl) x0 = some (sl aB l)) (hmc:MC Tryz.prog 87 [sl aB l] [] 0 (fun _:Unit => True) (fun _ => .own 0 0 l.length 6) (fun _ => [(0,some (flat aB l))])) (hM:Nat.ble (nidl + 1) aX = true) (hN:Nat.blt d N = true){md':Md}[hmd:MdA md (jS [x0] ++ []) (List.map Sum.inr (List.map Prod.fst ([(nidl,some (flat aB l))]:List (Nat × Option (List AV)))) ++ [.inl d]) md'] (kk:RW Tryz.prog N all Q md' rest ⟨(d,.own nidl 0 l.length 6) :: tsl,mY hsl [(nidl,some (flat aB l))],nidl + 1,z0⟩):RW Tryz.prog N all Q md (⟨some d,.call ⟨.value (.func 87),#[x0],tys⟩,ty,pos,af,none⟩ :: rest) ⟨tsl,hsl,nidl,z0⟩:=by
 exact cG (l := [x0]) [] 1 [(nidl,some (flat aB l))] hmc (avs := [sl aB l]) (by simp only [evL,ha0]) rfl hM hN (md' := md') (hmd := hmd) kk
theorem BZ {q:Prg}{x0:Operand}(ha0:ev (lk tsl) x0 = some (bY q)) (hmc:MC Tryz.prog 41 [bY q] [] 0 (fun _:Unit => True) (fun _ => .agg [.own 3 0 q.types.length 1,.own 4 0 q.body.length 6]) (fun _ => [(3,some (flat cI q.types)),(4,some (flat aB q.body))])) (hM:Nat.ble (nidl + 5) aX = true) (hN:Nat.blt d N = true){md':Md}[hmd:MdA md (jS [x0] ++ []) (List.map Sum.inr (List.map Prod.fst ([((nidl + 3),some (flat cI q.types)),((nidl + 4),some (flat aB q.body))]:List (Nat × Option (List AV)))) ++ [.inl d]) md'] (kk:RW Tryz.prog N all Q md' rest ⟨(d,.agg [.own (nidl + 3) 0 q.types.length 1,.own (nidl + 4) 0 q.body.length 6]) :: tsl,mY hsl [((nidl + 3),some (flat cI q.types)),((nidl + 4),some (flat aB q.body))],nidl + 5,z0⟩):RW Tryz.prog N all Q md (⟨some d,.call ⟨.value (.func 41),#[x0],tys⟩,ty,pos,af,none⟩ :: rest) ⟨tsl,hsl,nidl,z0⟩:=by
 exact cG (l := [x0]) [] 5 [((nidl + 3),some (flat cI q.types)),((nidl + 4),some (flat aB q.body))] hmc (avs := [bY q]) (by simp only [evL,ha0]) rfl hM hN (md' := md') (hmd := hmd) kk
theorem Fb (q:Prg) (hs:aI q.body ≤ 1048576) (ht:q.types.length ≤ 1048576):MC Tryz.prog 41 [bY q] [] 0 (fun _:Unit => True) (fun _ => .agg [.own 3 0 q.types.length 1,.own 4 0 q.body.length 6]) (fun _ => [(3,some (flat cI q.types)),(4,some (flat aB q.body))]):=by
 refine c8 Tryz.func41 Tryz.ntmps41 ?_
 repeat' (first|(apply aH;(apply Dw;rfl;(apply Gm;assumption);rfl;rfl))|refine aF ?_|refine dC ?_|fail)
 refine aO rfl ?_
 refine eS () trivial ?_ ⟨sE ?_,sE ?_,trivial⟩
 ·show AV.agg [AV.own 3 0 (0 + q.types.length) 1, AV.own 4 0 q.body.length 6] = _
  rw [Nat.zero_add]
 ·rfl
 ·rfl
theorem Cz (p:Prg) (hv:bE p = false) (hl:p.types.length ≤ 1048576) (hs:aI p.body ≤ 1048576):PC Tryz.prog 93 [bY p] (fun r => r = sl jX []):=by
 refine aC Tryz.func93 Tryz.ntmps93 ?_
 repeat' (first|(apply aH;(apply aA (k := 66);rfl;(exact (by have := nV p hl hs;rw [if_neg (by simp [hv])] at this;exact this));exact Pur.pf;rfl))|refine aF ?_|fail)
 (refine bW (Le.nilImm (d := 2) rfl) ?_; refine aO rfl ?_)
 exact ⟨rfl,rfl⟩
theorem CG (p:Prg) (hv:bE p = false) (hl:p.types.length ≤ 1048576) (hs:aI p.body ≤ 1048576):PC Tryz.prog 88 [bY p] (fun r => r = sl jX []):=by
 have hval := iD p hl (by omega)
 rw [hv] at hval
 refine aC Tryz.func88 Tryz.ntmps88 ?_
 repeat' (first|(apply aH;first|(apply aA (k := 40);rfl;exact hval;exact Pur.pf;rfl)|(apply aY (t := _);rfl;rfl;rfl;(rfl);rfl;rfl))|refine aF ?_|fail)
 exact aO rfl ⟨rfl,rfl⟩
theorem w9 (p:Prg) (L:List Iss) (hl:p.types.length ≤ 1048576) (hs:aI p.body ≤ 1048576) (hC:PC Tryz.prog 93 [bY p] (fun r => r = sl jX L)):PC Tryz.prog 60 [bY p] (fun r => r = bv (bE p && L.isEmpty)):=by
 refine aC Tryz.func60 Tryz.ntmps60 ?_
 repeat' (first|(apply aH;first|(apply aA (k := 93);rfl;exact hC;exact Pur.pf;rfl)|(apply aA (k := 45);rfl;(apply fC <;> (first|assumption|omega));exact Pur.pf;rfl))|refine aF ?_|(refine cE ?_ ?_ <;> intro hg hq <;> try (exfalso;omega))|fail)
 all_goals refine aO rfl ⟨?_,rfl⟩
 all_goals simp only [aQ]
 ·rw [show bE p = true by assumption]
  cases L with
  | nil => rfl
  | cons a b => simp;omega
 ·rw [show bE p = false by assumption]; rfl
theorem yA (p:Prg) (L:List Iss) (hl:p.types.length ≤ 1048576) (hs:aI p.body ≤ 1048576) (hC:PC Tryz.prog 88 [bY p] (fun r => r = sl jX L)):PC Tryz.prog 54 [bY p] (fun r => r = bv (bE p && L.isEmpty)):=by
 have hval := iD p hl (by omega)
 refine aC Tryz.func54 Tryz.ntmps54 ?_
 repeat' (first|(apply aH;first|(apply aA (k := 88);rfl;exact hC;exact Pur.pf;rfl)|(apply aA (k := 40);rfl;exact hval;exact Pur.pf;rfl))|refine aF ?_|(refine cE ?_ ?_ <;> intro hg hq <;> try (exfalso;omega))|fail)
 all_goals refine aO rfl ⟨?_,rfl⟩
 all_goals simp only [aQ]
 ·rw [show bE p = true by assumption]
  cases L with
  | nil => rfl
  | cons a b => simp;omega
 ·rw [show bE p = false by assumption]; rfl
theorem Ag (p:Prg) (xs:List Int) (hl:p.types.length ≤ 1048576) (hs:aI p.body ≤ 1048576) (hx:xs.length ≤ 10):PC Tryz.prog 66 [bY p,sl cI xs] (fun r => r = if bE p = true ∧ (∀ j,j < xs.length → 0 ≤ xs[j]! ∧ xs[j]! < (aE p).length) then .tup [aG p.types p.body (aE p),bv true] else .tup [.v (.pointer none),bv false]):=by
 have hpl := fB p
 have hnl := gZ p.body
 refine aC Tryz.func66 Tryz.ntmps66 ?_
 repeat' (first|(apply aH;(first|(apply aA (k := 45);rfl;(apply fC <;> (first|assumption|omega));exact Pur.pf;rfl)|(apply aA (k := 109);rfl;(apply wC <;> (assumption));exact Pur.pf;rfl)))|refine aF ?_|(refine aU ?_ ?_ <;> intro hc hq <;> try (exfalso;omega))|refine dC ?_|fail)
 ·refine aO rfl ⟨?_, (by (rfl))⟩
  rw [if_neg (by simp [hq])]; rfl
 ·refine aL (σ := Nat) [6, 17, 18] [1] (fun k => [(19, iv (k : Int))]) (fun k => []) (fun k => k ≤ xs.length ∧ ∀ j, j < k → 0 ≤ xs[j]! ∧ xs[j]! < (aE p).length) (fun k => xs.length - k) (0) ⟨by omega, by omega⟩ ?_
  rintro k ⟨hk,hall⟩
  repeat' (first|(apply aH;(apply aA (k := 55);rfl;(apply dZ);(rfl);rfl))|refine aF ?_|(refine aU ?_ ?_ <;> intro hc hq <;> try (exfalso;omega))|fail)
  ·refine aO rfl ⟨?_, (by (rfl))⟩
   rw [if_neg (fun h => by have := h.2 k (by omega);omega)]; rfl
  ·(refine bS (k + 1) (Le.renA [(1, 1)]) ?_ ?_)
   ·exact ⟨by omega, fun j hj => by
     by_cases e : j = k
     ·subst e;omega
     ·exact hall j (by omega)⟩
   ·omega
  ·refine bW (Le.frzP (d := 4) (i := 1) rfl rfl) ?_
   refine aO rfl ⟨?_,(by show (AV.tup [aG p.types p.body (aE p),bv true]).pur = true;exact PurV.pf)⟩
   rw [if_pos ⟨by assumption,fun j hj => hall j (by omega)⟩]; rfl
def J2 (p : Prg) (i : Int) : Prop := bE p = true ∧ 0 ≤ i ∧ i < (aE p).length
theorem Cp (p:Prg) (i:Int) (hl:p.types.length ≤ 1048576) (hs:aI p.body ≤ 1048576) (h:J2 p i):PC Tryz.prog 66 [bY p,.imm 1 [iv i]] (fun r => r = .tup [aG p.types p.body (aE p),bv true]):=by
 have := Ag p [i] hl hs (by simp)
 rw [if_pos ⟨h.1, fun j hj => by obtain rfl : j = 0 := by simpa using hj
                                 exact h.2⟩] at this
 exact this
theorem jV (p:Prg) (i:Int) (f:Flows p.types (aE p)) (hl:p.types.length ≤ 1048576) (hs:aI p.body ≤ 1048576) (h:J2 p i):PC Tryz.prog 58 [bY p,iv i] (fun r => r = sl cI (bB f.Aa[i.toNat]!)):=by
 have hg := Cp p i hl hs h
 have w := WG.of_valid h.1
 have hpl := w.pl
 have htl := w.tl
 have hi : 0 ≤ i ∧ i < (aE p).length := h.2
 have hin : i.toNat < (aE p).length := by omega
 have b := f.bnd w
 have hsA := b.sA
 have hla := b.la
 refine aC Tryz.func58 Tryz.ntmps58 ?_
 repeat' (first|(apply aH;first|(apply aA (k := 66);rfl;exact hg;exact Pur.pf;rfl)|(apply aA (k := 101);rfl;exact yL p.types p.body (aE p) f.Aa w f.ga;exact Pur.pf;rfl)|(apply aY (t := _);rfl;rfl;rfl;exact (rfl:_=some [_]);rfl;rfl)|(apply aA (k := 100);rfl;(apply uB <;> (infer_instance));(rfl);rfl))|refine aF ?_|fail)
 refine aO rfl ⟨rfl,(by (exact bD _ _))⟩
theorem Ea (xs:List Int) (hl:xs.length ≤ 1048576):PC Tryz.prog 91 [sl cI xs] (fun r => r = sl cI xs):=by
 refine aC Tryz.func91 Tryz.ntmps91 ?_
 repeat' (first|(apply aH;(apply yJ;rfl;rfl;(intro b hb)))|refine aF ?_|(refine aU ?_ ?_ <;> intro hc hq <;> try (exfalso;omega))|fail)
 ·have h0 : xs = [] := List.eq_nil_of_length_eq_zero (hb (by assumption))
  subst h0
  (refine bW (Le.nilImm (d := 2) rfl) ?_; refine aO rfl ?_)
  exact ⟨rfl,rfl⟩
 ·(refine bW (Le.frzD (d := 2) (i := 1) rfl rfl) ?_; refine aO rfl ?_)
  refine ⟨?_,(by (exact bD _ _))⟩
  simp only [aQ,sl,Nat.zero_add]
theorem DM (mm:Nat) (hmm:mm ≤ 1048576) (own_ih:∀ l,aI l < mm → PC Tryz.prog 92 [sl aB l] (fun r => r = sl aB l)) (l:List AL.Stmt) (hs:aI l ≤ mm):PC Tryz.prog 92 [sl aB l] (fun r => r = sl aB l):=by
 have hlen := bR l
 refine aC Tryz.func92 Tryz.ntmps92 ?_
 repeat' (first|(apply aH;(apply fN (d := 3) (e := 6);rfl;rfl))|refine aF ?_|fail)
 refine aL (σ := Nat × List AL.Stmt) [6,7] [] (fun k => [(8,iv (k.1 : Int)),(3,.own 0 0 k.1 6)]) (fun k => [(0,some (flat aB k.2))]) (fun k => k.1 ≤ l.length ∧ k.2 = l.take k.1) (fun k => l.length - k.1) (0,[]) ⟨by omega,rfl⟩ ?_
 rintro ⟨k,xs⟩ ⟨hk,hxs⟩
 dsimp only at hk hxs ⊢
 have hck := cZ l k
 have hct := dX l[k]!
 have hln : xs.length = k := by rw [hxs,List.length_take]; omega
 repeat' (first|(apply aH;first|(apply aY (t := _);rfl;rfl;rfl;(exact (rfl:_=some [_,_,_,_,_,_]));rfl;rfl)|(apply aA (k := 92);rfl;(apply own_ih <;> (omega));exact Pur.pf;rfl))|refine aF ?_|(refine aU ?_ ?_ <;> intro hc hq <;> try (exfalso;omega))|refine dC ?_|fail)
 ·(refine bS (k + 1, _) (Le.renA [(0, 3)]) ?_ ?_)
  ·exact ⟨by dsimp only;omega,by dsimp only;rw [hxs,bQ l k (by omega)]⟩
  ·dsimp only;omega
 ·have hke : k = l.length := by omega
  (refine bW (Le.frzD (d := 2) (i := 0) rfl rfl) ?_; refine aO rfl ?_)
  refine ⟨?_,Pur.pf⟩
  rw [hxs,hke,List.take_length]; rfl
theorem HY (l:List AL.Stmt) (hb:aI l ≤ 1048576):PC Tryz.prog 92 [sl aB l] (fun r => r = sl aB l):=by
 have key : ∀ m, m ≤ 1048576 → ∀ l, aI l ≤ m → PC Tryz.prog 92 [sl aB l] (fun r => r = sl aB l) := by
  intro m
  induction m with
  | zero => intro hm l hl;exact DM 0 hm (fun l h => by omega) l hl
  | succ m ih => intro hm l hl;exact DM (m + 1) hm (fun l h => ih (by omega) l (by omega)) l hl
 exact key (aI l) hb l (Nat.le_refl _)
theorem Ie (l:List AL.Stmt) (hs:aI l ≤ 1048576):MC Tryz.prog 92 [sl aB l] [] 0 (fun _:Unit => True) (fun _ => .own 0 0 l.length 6) (fun _ => [(0,some (flat aB l))]):=by
 have hlen := bR l
 refine c8 Tryz.func92 Tryz.ntmps92 ?_
 repeat' (first|(apply aH;(apply fN (d := 3) (e := 6);rfl;rfl))|refine aF ?_|fail)
 refine aL (σ := Nat × List AL.Stmt) [6,7] [] (fun k => [(8,iv (k.1 : Int)),(3,.own 0 0 k.1 6)]) (fun k => [(0,some (flat aB k.2))]) (fun k => k.1 ≤ l.length ∧ k.2 = l.take k.1) (fun k => l.length - k.1) (0,[]) ⟨by omega,rfl⟩ ?_
 rintro ⟨k,xs⟩ ⟨hk,hxs⟩
 dsimp only at hk hxs ⊢
 have hck := cZ l k
 have hct := dX l[k]!
 have hln : xs.length = k := by rw [hxs,List.length_take]; omega
 have o1 := HY l[k]!.th
 have o2 := HY l[k]!.el
 repeat' (first|(apply aH;first|(apply aA (k := 92);rfl;exact (o1 (by omega));exact Pur.pf;rfl)|(apply aA (k := 92);rfl;exact (o2 (by omega));exact Pur.pf;rfl)|(apply aY (t := _);rfl;rfl;rfl;(exact (rfl:_=some [_,_,_,_,_,_]));rfl;rfl))|refine aF ?_|(refine aU ?_ ?_ <;> intro hc hq <;> try (exfalso;omega))|refine dC ?_|fail)
 ·(refine bS (k + 1, _) (Le.renA [(0, 3)]) ?_ ?_)
  ·exact ⟨by dsimp only;omega,by dsimp only;rw [hxs,bQ l k (by omega)]⟩
  ·dsimp only;omega
 ·have hke : k = l.length := by omega
  have hxl : xs = l := by rw [hxs,hke,List.take_length]
  subst hke
  (refine aO rfl ?_; refine eS () trivial ?_ ⟨sE ?_,trivial⟩)
  ·rfl
  ·rw [hxl]
theorem GW {l:List AL.Stmt}{x0:Operand}(ha0:ev (lk tsl) x0 = some (sl aB l)) (hmc:MC Tryz.prog 92 [sl aB l] [] 0 (fun _:Unit => True) (fun _ => .own 0 0 l.length 6) (fun _ => [(0,some (flat aB l))])) (hM:Nat.ble (nidl + 1) aX = true) (hN:Nat.blt d N = true){md':Md}[hmd:MdA md (jS [x0] ++ []) (List.map Sum.inr (List.map Prod.fst ([(nidl,some (flat aB l))]:List (Nat × Option (List AV)))) ++ [.inl d]) md'] (kk:RW Tryz.prog N all Q md' rest ⟨(d,.own nidl 0 l.length 6) :: tsl,mY hsl [(nidl,some (flat aB l))],nidl + 1,z0⟩):RW Tryz.prog N all Q md (⟨some d,.call ⟨.value (.func 92),#[x0],tys⟩,ty,pos,af,none⟩ :: rest) ⟨tsl,hsl,nidl,z0⟩:=by
 exact cG (l := [x0]) [] 1 [(nidl,some (flat aB l))] hmc (avs := [sl aB l]) (by simp only [evL,ha0]) rfl hM hN (md' := md') (hmd := hmd) kk
theorem Gv {q:Prg}{x0:Operand}(ha0:ev (lk tsl) x0 = some (bY q)) (hmc:MC Tryz.prog 46 [bY q] [] 0 (fun _:Unit => True) (fun _ => .agg [sl cI q.types,.own 2 0 q.body.length 6]) (fun _ => [(2,some (flat aB q.body))])) (hM:Nat.ble (nidl + 3) aX = true) (hN:Nat.blt d N = true){md':Md}[hmd:MdA md (jS [x0] ++ []) (List.map Sum.inr (List.map Prod.fst ([((nidl + 2),some (flat aB q.body))]:List (Nat × Option (List AV)))) ++ [.inl d]) md'] (kk:RW Tryz.prog N all Q md' rest ⟨(d,.agg [sl cI q.types,.own (nidl + 2) 0 q.body.length 6]) :: tsl,mY hsl [((nidl + 2),some (flat aB q.body))],nidl + 3,z0⟩):RW Tryz.prog N all Q md (⟨some d,.call ⟨.value (.func 46),#[x0],tys⟩,ty,pos,af,none⟩ :: rest) ⟨tsl,hsl,nidl,z0⟩:=by
 exact cG (l := [x0]) [] 3 [((nidl + 2),some (flat aB q.body))] hmc (avs := [bY q]) (by simp only [evL,ha0]) rfl hM hN (md' := md') (hmd := hmd) kk
theorem H4 (q:Prg) (hs:aI q.body ≤ 1048576) (ht:q.types.length ≤ 1048576):MC Tryz.prog 46 [bY q] [] 0 (fun _:Unit => True) (fun _ => .agg [sl cI q.types,.own 2 0 q.body.length 6]) (fun _ => [(2,some (flat aB q.body))]):=by
 have h1 := Ea q.types ht
 refine c8 Tryz.func46 Tryz.ntmps46 ?_
 repeat' (first|(apply aH;first|(apply aA (k := 91);rfl;exact h1;exact Pur.pf;rfl)|(apply GW;rfl;(apply Ie;assumption);rfl;rfl))|refine aF ?_|refine dC ?_|fail)
 (refine aO rfl ?_; refine eS () trivial ?_ ⟨sE ?_,trivial⟩)
 ·rfl
 ·rfl
theorem j1 (q:Prg) (k:Nat) (hk:k ≤ q.body.length) (hs:aI q.body ≤ 1048576):PC Tryz.prog 48 [bY q,iv (k:Int)] (fun r => r = iv (b8 (q.body.take k):Int)):=by
 have hlen := bR q.body
 have hc : aI (List.take ((k : Int).toNat - 0) (List.drop 0 q.body)) ≤ aI q.body := by
  have h := dG (q.body.take k) (q.body.drop k)
  rw [List.take_append_drop] at h
  rw [List.drop_zero,Nat.sub_zero,Int.toNat_natCast]; omega
 have hn := gZ (List.take ((k : Int).toNat - 0) (List.drop 0 q.body))
 refine aC Tryz.func48 Tryz.ntmps48 ?_
 repeat' (first|(apply aH;(apply m9;rfl;rfl;(apply oM <;> (omega));rfl;rfl))|refine aF ?_|fail)
 refine aO rfl ⟨?_,rfl⟩
 simp only [aQ,List.drop_zero,Nat.sub_zero,Int.toNat_natCast]
def shr (xs : List Tg) : List Tg := xs.filter (fun t => !t.uq)
theorem wW {α:Type}[Inhabited α] (l:List α) (k:Nat):l.set k l[k]! = l:=by
 rcases Nat.lt_or_ge k l.length with h|h
 ·rw [bF _ _ h]; simp
 ·exact List.set_eq_of_length_le h
theorem LdL.app {D:List Nat}{H:Nat → Option (List AV)}:∀ {a b c d:List AV},LdL D H a b → LdL D H c d → bJ a = true → LdL D H (a ++ c) (a ++ d)
 | [],_,_,_,_,h,_ => h
 | x :: a, b, c, d, h1, h, hp => by
  simp only [bJ,Bool.and_eq_true] at hp
  exact .cons (.pur hp.1) (LdL.app (a := a) (b := a) (.pur hp.2) h hp.2)
end Go.Proofs.YtgkalkgplcdnkaaGreat
namespace Go.Proofs.YtgkalkgplcdnkaaGreat
open Go.AL Go.ChangeShapes Go.WideShapes Go.ChangeAt Go.RowKit
theorem I6:laidOutB Tryz.prog = true := by kernel_rfl
end Go.Proofs.YtgkalkgplcdnkaaGreat
namespace Go.Proofs.YtgkalkgplcdnkaaGreat
open Go.AL Go.RowKit
def F5 (r : Option Prg) : AV := .tup [bY (r.getD ⟨[],[]⟩),bv r.isSome]
theorem F9 (r:Option Prg):(F5 r).pur = true := by unfold F5;exact PurV.pf
theorem kE {P:Program}{s:AS}{res:Array ResultVar}{r:Option Prg}{l:List AV}(hr:iX P (lk s.ts) (aP s.hs) res.toList = some l) (e:aQ l = F5 r):mD P res (fun x _ => x = F5 r ∧ x.pur = true) .ret s := aO hr ⟨e,by rw [e]; exact F9 r⟩
def fwdC (p : Prg) (k : Nat) : Prop := k + 1 < p.body.length ∧ p.body[k]!.op = 7 ∧ p.body[k + 1]!.op = 6 ∧ p.body[k + 1]!.y = p.body[k]!.x ∧ p.body[k + 1]!.x ≠ p.body[k]!.y
instance (p : Prg) (k : Nat) : Decidable (fwdC p k) := by unfold fwdC;infer_instance
theorem Ad (q:Prg) (k:Nat) (hk:k ≤ q.body.length) (hs:aI q.body ≤ 1048576):PC Tryz.prog 52 [bY q,iv (k:Int)] (fun r => r = iv (b8 (q.body.take k):Int)):=by
 have hlen := bR q.body
 have hc : aI (List.take ((k : Int).toNat - 0) (List.drop 0 q.body)) ≤ aI q.body := by
  have h := dG (q.body.take k) (q.body.drop k)
  rw [List.take_append_drop] at h
  rw [List.drop_zero,Nat.sub_zero,Int.toNat_natCast]; omega
 have hn := gZ (List.take ((k : Int).toNat - 0) (List.drop 0 q.body))
 refine aC Tryz.func52 Tryz.ntmps52 ?_
 repeat' (first|(apply aH;(apply pT;rfl;rfl;(exact sX rfl);(apply BL <;> (first|omega|(simp only [kD] <;> omega)));rfl;rfl))|refine aF ?_|fail)
 refine aO rfl ⟨?_,rfl⟩
 simp only [aQ,List.drop_zero,Nat.sub_zero,Int.toNat_natCast,Nat.zero_add]
theorem qL (A:Nat) (x:Int) (h0:0 ≤ x) (hA:A < 2 ^ 62):PC Tryz.prog 57 [sl cI (bB A),iv x] (fun r => r = bv (A.testBit x.toNat)):=by
 have h := pY (bB A) x (by unfold bB;rw [List.length_map]; exact Nat.le_trans (List.length_filter_le _ _) (by rw [List.length_range]; decide))
 have e : decide (x ∈ bB A) = A.testBit x.toNat := by
  rw [Bool.eq_iff_iff,decide_eq_true_eq,cD]
  constructor
  ·rintro ⟨v, _, h2, rfl⟩
   rw [Int.toNat_natCast]; exact h2
  ·intro h1
   refine ⟨x.toNat,?_,h1,by omega⟩
   apply Classical.byContradiction;intro q
   have := Nat.testBit_lt_two_pow (Nat.lt_of_lt_of_le hA (Nat.pow_le_pow_right (by decide) (show 62 ≤ x.toNat by omega)))
   rw [h1] at this;cases this
 rw [e] at h;exact h
end Go.Proofs.YtgkalkgplcdnkaaGreat
namespace Go
variable {P : Program}
theorem eQ (w:World) (dT sT ty elem:TypeId) (b o dLen dCap:Nat) (a:Addr) (sLen sCap z:Nat) (cs:List Value)
  (hu : P.underlying dT = some (.slice elem)) (hs : (P.info? elem).map (·.size) = some z) (hn : cs.length = Nat.min sLen dLen * z)
  (hsrc : ∀ j v,cs[j]? = some v → w.cell? (a.add j) = some v) (hc : ∀ j,j < cs.length → (w.cell? ⟨b,o + j,none⟩).isSome = true) (hf : ∀ j,j < cs.length → w.frozen? ⟨b,o + j,none⟩ = false) (h1 : ∀ v ∈ cs,v.oneCell' = true) :
  (Builtin.copy_ #[dT,sT] ty #[.slice (some ⟨b,o,none⟩) dLen dCap,.slice (some a) sLen sCap]).run P w = .ok (goInt (Nat.min sLen dLen)) (w.setCells b o cs) := by
 have hl := run_loadCells_list (P := P) w a cs hsrc
 have hst := run_storeCells_cells (P := P) b o cs 0 w (by simpa using hc) (by simpa using hf) h1
 cases hq : P.info? elem with
 | none => simp [hq] at hs
 | some i =>
  have hi : i.size = z := by simpa [hq] using hs
  simp [Builtin.copy_,run_underlying hu,Builtin.lenOf,Builtin.firstCells,sizeOf,typeInfo,hq,hi,← hn,hl,hst]
end Go
namespace Go.Proofs.YtgkalkgplcdnkaaGreat
open Go Go.AL Go.RowKit
set_option maxRecDepth 100000 in
theorem sQ (b off n c i vb voff vc:Nat) (cs vs:List Value) (w:World) (hi:i < n) (hroom:n + 1 ≤ c) (hvb:vb ≠ b) (hn6:n ≤ 1048576)
  (hcl : cs.length = n * 6) (hvl : vs.length = 6)
  (hcs : ∀ j v,cs[j]? = some v → w.cell? ⟨b,off + j,none⟩ = some v) (hsp : ∀ j,j < (n + 1) * 6 → (w.cell? ⟨b,off + j,none⟩).isSome = true) (hfz : ∀ j,j < (n + 1) * 6 → w.frozen? ⟨b,off + j,none⟩ = false)
  (hvs : ∀ j v,vs[j]? = some v → w.cell? ⟨vb,voff + j,none⟩ = some v) (h1c : ∀ v ∈ cs,v.oneCell' = true) (h1v : ∀ v ∈ vs,v.oneCell' = true)
  (tA tB : TypeId) (kA kB : Nat) (hsa : w.shape? vb = some (tA,kA)) (hsb : w.shape? b = some (tB,kB)) (hkB : kB ≠ 0) (hfa : w.frozen? ⟨vb,voff,none⟩ = false) (hfe : w.frozen? ⟨vb,kA,none⟩ = false) :
  Calls Tryz.prog 59 #[.slice (some ⟨b, off, none⟩) n c, .int .i64 i, .slice (some ⟨vb, voff, none⟩) 1 vc] w fun e w' =>
   e = .returned (.slice (some ⟨b,off,none⟩) (n + 1) c) ∧ w' = (w.drew.setCells b (off + (i + 1) * 6) (cs.drop (i * 6))).setCells b (off + i * 6) vs := by
 have ht : Tryz.prog.underlying 28 = some (.slice 76) := by kernel_rfl
 have hsz : (Tryz.prog.info? 76).map (·.size) = some 6 := by kernel_rfl
 have hz2 : ¬ ((i : Int) = (n : Int)) := by omega
 have hz1 : ¬ ((1 : Int) = 0) := by omega
 have hov : ∀ lb cb, (callFunc 102 #[.slice (some ⟨vb, voff, none⟩) 1 vc, .slice (some ⟨b, off + (i + 1) * 6, none⟩) lb cb]).run Tryz.prog w = .ok (.value (.bool false)) w := fun lb cb => by
  rw [run_callFunc_extern Tryz.func102 (by kernel_rfl) (by kernel_rfl) (by kernel_rfl) (e := Extern.SlicesOverlaps.overlaps #[28, 28] #[4]) (by kernel_rfl),
   Lib.run_overlaps_apart w 28 4 76 ht 6 (dW (inferInstance : SzT Tryz.prog 76 6).pf) ⟨vb,voff,none⟩ ⟨b,off + (i + 1) * 6,none⟩ 1 vc lb cb hvb tA tB kA kB hsa hsb hkB hfa hfe]
  rfl
 have hdl : (cs.drop (i * 6)).length = (n - i) * 6 := by rw [List.length_drop,hcl]; omega
 have hmn : Nat.min (n + 1 - i) (n - i) = n - i := by simp only [Nat.min_def]; split <;> omega
 have hmn2 : Nat.min 1 (n + 1 - i) = 1 := by simp only [Nat.min_def]; split <;> omega
 have hw1 : IntKind.i64.wrap ((i : Int) + 1) = (i : Int) + 1 := by rw [IntKind.wrap_i64]; omega
 have hb1 : (0 : Int) ≤ (i : Int) + 1 := by omega
 have hin : i ≤ n := by omega
 have htn : ((i : Int) + 1).toNat = i + 1 := by omega
 have hb2 : ¬ (c = i + 1) := by omega
 have hb3 : (i : Int) ≤ (n : Int) + 1 := by omega
 have hb4 : ¬ (c = i) := by omega
 have hcp1 : ∀ ty dc sc, (Builtin.copy_ #[28, 28] ty #[.slice (some ⟨b, off + (i + 1) * 6, none⟩) (n - i) dc, .slice (some ⟨b, off + i * 6, none⟩) (n + 1 - i) sc]).run Tryz.prog w.drew = .ok (goInt (Nat.min (n + 1 - i) (n - i))) (w.drew.setCells b (off + (i + 1) * 6) (cs.drop (i * 6))) := fun ty dc sc =>
  eQ w.drew _ _ ty 76 b (off + (i + 1) * 6) (n - i) dc ⟨b, off + i * 6, none⟩ (n + 1 - i) sc 6 (cs.drop (i * 6)) ht hsz (by rw [hdl, hmn])
   (fun j v hj => by rw [Addr.add_lit,Nat.add_assoc]; exact hcs (i * 6 + j) v (by rwa [List.getElem?_drop] at hj))
   (fun j hj => by rw [Nat.add_assoc]; exact hsp _ (by omega)) (fun j hj => by rw [Nat.add_assoc]; exact hfz _ (by omega)) (fun v hv => h1c v (List.mem_of_mem_drop hv))
 obtain ⟨W1,hW1⟩ : ∃ W1,W1 = w.drew.setCells b (off + (i + 1) * 6) (cs.drop (i * 6)) := ⟨_,rfl⟩
 have hsp1 : ∀ k, k < (n + 1) * 6 → (W1.cell? ⟨b, off + k, none⟩).isSome = true := fun k hk => by
  rw [hW1]
  exact isSome_setCells b _ _ _ (fun j hj => by rw [Nat.add_assoc]; exact hsp _ (by omega)) _ (hsp k hk)
 have hcp2 : ∀ (W : World), (∀ x, W.cell? x = W1.cell? x) → (∀ x, W.frozen? x = W1.frozen? x) → ∀ ty dc, (Builtin.copy_ #[28, 28] ty #[.slice (some ⟨b, off + i * 6, none⟩) (n + 1 - i) dc, .slice (some ⟨vb, voff, none⟩) 1 vc]).run Tryz.prog W = .ok (goInt (Nat.min 1 (n + 1 - i))) (W.setCells b (off + i * 6) vs) := fun W hWc hWf ty dc =>
  eQ W _ _ ty 76 b (off + i * 6) (n + 1 - i) dc ⟨vb, voff, none⟩ 1 vc 6 vs ht hsz (by rw [hvl, hmn2])
   (fun j v hj => by
    rw [Addr.add_lit,hWc,hW1,World.cell?_setCells_out b _ _ _ _ (fun h _ => absurd h hvb)]
    exact hvs j v hj)
   (fun j hj => by rw [hWc,Nat.add_assoc]; exact hsp1 _ (by omega)) (fun j hj => by rw [hWf,hW1,World.frozen?_setCells,Nat.add_assoc]; exact hfz _ (by omega)) h1v
 rw [← hW1] at hcp1
 have mixed : Tryz.prog.follows .mixedOrders = true := by kernel_rfl
 go_enter Tryz.func59,Tryz.ntmps59
 go_wp2_with (simp only [hov])
 go_region_law_o (refine step_copy_runI rfl _ _ 28 28 rfl _ _ (by simp [Act.eval,Act.put]) (by simp [Act.eval,Act.put]) (hcp1 _ _ _) ?_)
 go_wp2_with (at_builtin;refine wpList_copy_runI _ rfl _ _ 28 28 rfl _ _ rfl rfl (hcp2 _ (fun _ => rfl) (fun _ => rfl) _ _) ?_)
 go_ret
 first|exact ⟨rfl,rfl⟩|exact ⟨rfl,by rw [hW1]⟩
set_option maxRecDepth 100000 in
theorem vZ (b off n c i vb voff vc:Nat) (cs vs:List Value) (w:World) (hi:i < n) (hnc:n ≤ c) (hroom:c < n + 1) (hn:n ≤ 1048576)
  (hcl : cs.length = n * 6) (hvl : vs.length = 6)
  (hcs : ∀ j v,cs[j]? = some v → w.cell? ⟨b,off + j,none⟩ = some v)
  (hvs : ∀ j v,vs[j]? = some v → w.cell? ⟨vb,voff + j,none⟩ = some v) (h1c : ∀ v ∈ cs,v.oneCell' = true) (h1v : ∀ v ∈ vs,v.oneCell' = true) :
  Calls Tryz.prog 59 #[.slice (some ⟨b, off, none⟩) n c, .int .i64 i, .slice (some ⟨vb, voff, none⟩) 1 vc] w fun e w' => ∃ G ROW, n + 1 ≤ G ∧ ROW.size = G * 6 ∧ (∀ j v, j < i * 6 → cs[j]? = some v → ROW[j]? = some v) ∧
   e = .returned (.slice (some ⟨w.heap.size,0,none⟩) (n + 1) G) ∧
   w' = (((w.alloc (.cells ROW 76)).drew.setCells w.heap.size (i * 6) vs).drew).setCells w.heap.size ((i + 1) * 6) (cs.drop (i * 6)) := by
 have ht : Tryz.prog.underlying 28 = some (.slice 76) := by kernel_rfl
 have ht3 : Tryz.prog.underlying 3 = some (.int .i64) := by kernel_rfl
 have hi3 : (Tryz.prog.info? 76).map (fun i => (i.zero,i.size,i.bytes)) = some (some (Value.agg #[.int .i64 0,.int .i64 0,.int .i64 0,.int .i64 0,.slice none 0 0,.slice none 0 0]),6,80) := by kernel_rfl
 obtain ⟨i0,hi0,hz0,hzs,hzb⟩ := info_parts hi3
 have hz1 : ¬ ((1 : Int) = 0) := by omega
 have hz2 : ¬ ((i : Int) = (n : Int)) := by omega
 have hz3 : (c : Int) < (n : Int) + 1 := by omega
 have hsz : (Tryz.prog.info? 76).map (·.size) = some 6 := by rw [hi0]; simp [hzs]
 have hbw : b < w.heap.size := block_lt_of_cell (hcs 0 _ (List.getElem?_eq_getElem (by omega)))
 have hvw : vb < w.heap.size := block_lt_of_cell (hvs 0 _ (List.getElem?_eq_getElem (by omega)))
 have hkk : (n : Int) + 1 - (i : Int) = ((n + 1 - i : Nat) : Int) := by omega
 have hik : i + (n + 1 - i) = n + 1 := by omega
 have hold : (Builtin.firstCells i0.size i (.slice (some ⟨b, off, none⟩) i c)).run Tryz.prog w.drew = .ok (cs.take (i * 6)).toArray w.drew := by
  rw [hzs]
  exact run_firstCells_some w.drew 6 i ⟨b, off, none⟩ i c (cs.take (i * 6)) (by rw [List.length_take]; omega) (fun j v hj => by
   rw [Addr.add_lit]
   rw [List.getElem?_take] at hj
   split at hj
   ·exact hcs j v hj
   ·cases hj)
 obtain ⟨Z,hZ⟩ : ∃ Z,Z = (Value.agg #[.int .i64 0,.int .i64 0,.int .i64 0,.int .i64 0,.slice none 0 0,.slice none 0 0]).cells := ⟨_,rfl⟩
 have hZs : Z.size = 6 := by rw [hZ]; rfl
 have hrz : ∀ ty, (Builtin.append_ #[28, 3] ty #[.slice (some ⟨b, off, none⟩) i c, .int .i64 ((n : Int) + 1 - (i : Int))]).run Tryz.prog w =
   .ok (.slice (some ⟨w.heap.size,0,none⟩) (n + 1) (grownCap w (n + 1) c 76)) (w.drew.alloc (.cells ((cs.take (i * 6)).toArray ++ Builtin.zeroCells Z (n + 1 - i) ++ Builtin.zeroCells Z (grownCap w (n + 1) c 76 - (n + 1))) 76)) := fun ty => by
  have h := Lib.run_append_grow_zeros w 28 3 ty 76 i0 _ .i64 .i64 ht ht3 hi0 hz0 (some ⟨b,off,none⟩) i c (cs.take (i * 6)) hold (n + 1 - i) (by omega) (by omega) (by omega) (by omega) (by rw [hzb]; omega) (by rw [hzb,hik]; exact growslice_fits hroom (by omega))
  rw [hik,← hZ] at h
  rw [hkk]
  exact h
 obtain ⟨G,hG⟩ : ∃ G,G = grownCap w (n + 1) c 76 := ⟨_,rfl⟩
 obtain ⟨ROW,hROW⟩ : ∃ ROW : Array Value,ROW = (cs.take (i * 6)).toArray ++ Builtin.zeroCells Z (n + 1 - i) ++ Builtin.zeroCells Z (G - (n + 1)) := ⟨_,rfl⟩
 rw [← hG] at hrz
 rw [← hROW] at hrz
 have hGn : n + 1 ≤ G := by rw [hG]; exact grownCap_ge w _ _ _
 have hRs : ROW.size = G * 6 := by
  rw [hROW]
  simp [Builtin.zeroCells,hZs,hcl]
  omega
 have hRc : ∀ j v, j < i * 6 → cs[j]? = some v → ROW[j]? = some v := fun j v hj hv => by
  rw [hROW,Array.append_assoc,Array.getElem?_append_left (by simp [hcl]; omega)]
  simp [List.getElem?_take,hj,hv]
 have hRl : (n + 1) * 6 ≤ ROW.size := by omega
 obtain ⟨W1,hW1⟩ : ∃ W1,W1 = w.drew.alloc (.cells ROW 76) := ⟨_,rfl⟩
 rw [← hW1] at hrz
 have hN : ∀ j, j < (n + 1) * 6 → (W1.cell? ⟨w.heap.size, j, none⟩).isSome = true := fun j hj => by
  rw [hW1,World.cell?_alloc_at (w := w.drew) ROW _ w.heap.size j rfl,Array.getElem?_eq_getElem (by omega)]; rfl
 have hNf : ∀ j,W1.frozen? ⟨w.heap.size,j,none⟩ = false := fun j => by rw [hW1]; exact World.frozen?_alloc_at (w := w.drew) ROW _ w.heap.size j rfl
 have hOb : ∀ j v,w.cell? ⟨b,j,none⟩ = some v → W1.cell? ⟨b,j,none⟩ = some v := fun j v h => by rw [hW1,World.cell?_alloc_past (w := w.drew) _ b j hbw]; exact h
 have hOv : ∀ j v,w.cell? ⟨vb,j,none⟩ = some v → W1.cell? ⟨vb,j,none⟩ = some v := fun j v h => by rw [hW1,World.cell?_alloc_past (w := w.drew) _ vb j hvw]; exact h
 have hmn2 : Nat.min 1 (n + 1 - i) = 1 := by simp only [Nat.min_def]; split <;> omega
 have hmn : Nat.min (n - i) (n - i) = n - i := Nat.min_self _
 have hcpA : ∀ (W : World), (∀ x, W.cell? x = W1.cell? x) → (∀ x, W.frozen? x = W1.frozen? x) → ∀ ty dc, (Builtin.copy_ #[28, 28] ty #[.slice (some ⟨w.heap.size, i * 6, none⟩) (n + 1 - i) dc, .slice (some ⟨vb, voff, none⟩) 1 vc]).run Tryz.prog W = .ok (goInt (Nat.min 1 (n + 1 - i))) (W.setCells w.heap.size (i * 6) vs) := fun W hWc hWf ty dc =>
  eQ W _ _ ty 76 w.heap.size (i * 6) (n + 1 - i) dc ⟨vb, voff, none⟩ 1 vc 6 vs ht hsz (by rw [hvl, hmn2])
   (fun j v hj => by rw [Addr.add_lit,hWc]; exact hOv _ v (hvs j v hj))
   (fun j hj => by rw [hWc]; exact hN _ (by omega)) (fun j hj => by rw [hWf]; exact hNf _) h1v
 have hG63 : G ≤ 9223372036854775807 := by
  have := grownCap_le_maxLen w (n + 1) c 76 (by unfold maxLen;omega)
  rw [← hG] at this
  unfold maxLen at this
  omega
 have hGi : ¬ (G = i) := by omega
 have hGim : ¬ (G = i + 1) := by omega
 have hci : ¬ (c = i) := by omega
 have hbN : b ≠ w.heap.size := by omega
 have hdl : (cs.drop (i * 6)).length = (n - i) * 6 := by rw [List.length_drop,hcl]; omega
 have hcpB : ∀ (W : World), (∀ x, W.cell? x = (W1.setCells w.heap.size (i * 6) vs).cell? x) → (∀ x, W.frozen? x = (W1.setCells w.heap.size (i * 6) vs).frozen? x) → ∀ ty dc sc, (Builtin.copy_ #[28, 28] ty #[.slice (some ⟨w.heap.size, (i + 1) * 6, none⟩) (n - i) dc, .slice (some ⟨b, off + i * 6, none⟩) (n - i) sc]).run Tryz.prog W = .ok (goInt (Nat.min (n - i) (n - i))) (W.setCells w.heap.size ((i + 1) * 6) (cs.drop (i * 6))) := fun W hWc hWf ty dc sc =>
  eQ W _ _ ty 76 w.heap.size ((i + 1) * 6) (n - i) dc ⟨b, off + i * 6, none⟩ (n - i) sc 6 (cs.drop (i * 6)) ht hsz (by rw [hdl, hmn])
   (fun j v hj => by
    rw [Addr.add_lit,hWc,World.cell?_setCells_out _ _ _ _ _ (fun h _ => absurd h hbN),Nat.add_assoc]
    exact hOb _ v (hcs (i * 6 + j) v (by rwa [List.getElem?_drop] at hj)))
   (fun j hj => by rw [hWc]; exact isSome_setCells _ _ _ _ (fun t ht => hN _ (by omega)) _ (hN _ (by omega)))
   (fun j hj => by rw [hWf,World.frozen?_setCells]; exact hNf _) (fun v hv => h1c v (List.mem_of_mem_drop hv))
 subst hW1
 have hE1 : ∀ x,((w.alloc (.cells ROW 76)).drew).cell? x = (w.drew.alloc (.cells ROW 76)).cell? x := fun x => rfl
 have hE2 : ∀ x,((w.alloc (.cells ROW 76)).drew).frozen? x = (w.drew.alloc (.cells ROW 76)).frozen? x := fun x => rfl
 have hF1 : ∀ x,(((w.alloc (.cells ROW 76)).drew.setCells w.heap.size (i * 6) vs).drew).cell? x = ((w.drew.alloc (.cells ROW 76)).setCells w.heap.size (i * 6) vs).cell? x := fun x => rfl
 have hF2 : ∀ x,(((w.alloc (.cells ROW 76)).drew.setCells w.heap.size (i * 6) vs).drew).frozen? x = ((w.drew.alloc (.cells ROW 76)).setCells w.heap.size (i * 6) vs).frozen? x := fun x => rfl
 have hw1 : IntKind.i64.wrap ((i : Int) + 1) = (i : Int) + 1 := by rw [IntKind.wrap_i64]; omega
 have hb1 : (0 : Int) ≤ (i : Int) + 1 := by omega
 have hin : i ≤ n := by omega
 have htn : ((i : Int) + 1).toNat = i + 1 := by omega
 have hb3 : (i : Int) ≤ (n : Int) := by omega
 have mixed : Tryz.prog.follows .mixedOrders = true := by kernel_rfl
 have fin : ∀ e' w'',e' = Exit.ret → w'' = (((w.alloc (.cells ROW 76)).drew.setCells w.heap.size (i * 6) vs).drew).setCells w.heap.size ((i + 1) * 6) (cs.drop (i * 6)) → True := fun _ _ _ _ => trivial
 clear hkk hik hold hROW hG hRl fin
 go_enter Tryz.func59,Tryz.ntmps59
 go_wp2_with (at_builtin;refine Lib.wpList_append_run _ rfl _ _ _ _ rfl _ _ rfl rfl _ _ (hrz _) ?_)
 go_region_law_o (refine step_copy_runI rfl _ _ 28 28 rfl (.slice (some ⟨w.heap.size,(i + 1) * 6,none⟩) (n - i) (G - (i + 1))) (.slice (some ⟨b,off + i * 6,none⟩) (n - i) (c - i)) (by simp [Act.eval,Act.put]) (by simp [Act.eval,Act.put]) (hcpB _ hF1 hF2 3 (G - (i + 1)) (c - i)) ?_)
 go_wp2
 go_ret
 exact ⟨G,ROW,hGn,hRs,hRc,rfl,rfl⟩
theorem sZ {xs:List AL.Stmt}{s:AL.Stmt}{k:Nat}(hk:k ≤ xs.length):flat aB (cL k s xs) = (flat aB xs).take (k * 6) ++ flat aB [s] ++ (flat aB xs).drop (k * 6):=by
 unfold cL
 have e1 : (flat aB xs).take (k * 6) = flat aB (xs.take k) := eH aB (e := 6) xs k
 have e2 : (flat aB xs).drop (k * 6) = flat aB (xs.drop k) := eT aB (e := 6) xs k
 rw [e1,e2,bC,show s :: xs.drop k = [s] ++ xs.drop k from rfl,bC,List.append_assoc]
theorem A3 {A B:List AV}{k n:Nat}(hA:A.length = n * 6) (hB:B.length = 6) (hk:k < n):iH (A.take ((k + 1) * 6) ++ A.drop (k * 6)) (k * 6) B = A.take (k * 6) ++ B ++ A.drop (k * 6):=by
 unfold iH
 have h1 : (A.take ((k + 1) * 6)).length = (k + 1) * 6 := by rw [List.length_take]; omega
 rw [List.take_append_of_le_length (by omega),List.take_take,show min (k * 6) ((k + 1) * 6) = k * 6 by omega,hB,show k * 6 + 6 = (k + 1) * 6 by omega,List.drop_append_of_le_length (by omega),List.drop_of_length_le (by omega),List.nil_append]
theorem pC {i:Nat}{X:List AV}{id:Nat}{cs:List AV}(h:aP [(i,some X)] id = some cs):id = i ∧ cs = X:=by
 have h' : cond (Nat.beq id i) (some X) none = some cs := h
 by_cases q : id = i
 ·subst q
  rw [Nat.beq_refl] at h'; cases h'; exact ⟨rfl,rfl⟩
 ·rw [show Nat.beq id i = false by cases e : Nat.beq id i with|false => rfl|true => exact absurd (Nat.eq_of_beq_eq_true e) q] at h'; cases h'
theorem D0 (xs:List AL.Stmt) (s:AL.Stmt) (k:Nat) (hk:k < xs.length) (hl:xs.length ≤ 1048576):MC Tryz.prog 59 [.own 0 0 xs.length 6,iv (k:Int),.own 1 0 1 6] [(0,some (flat aB xs)),(1,some (flat aB [s]))] 2 (fun _:Unit => True) (fun _ => .own 2 0 (xs.length + 1) 6)
  (fun _ => [(2,some (flat aB (cL k s xs)))]) := by
 intro C ι w vals hw hι g hr
 have hfl : (flat aB xs).length = xs.length * 6 := aK aB (e := 6) xs
 have hfs : (flat aB [s]).length = 6 := aK aB (e := 6) [s]
 have hle : k * 6 ≤ xs.length * 6 := Nat.mul_le_mul_right _ (by omega)
 simp only [RdV] at hr
 obtain ⟨y0,l,rfl,hy0,y1,l,rfl,hy1,y2,l,rfl,hy2,rfl⟩ := hr
 simp only [Rd] at hy0 hy1 hy2
 rcases hy0 with ⟨_,hn,_⟩ | ⟨b,β,c,hib,rfl,hnc,hcb⟩
 ·omega
 rcases hy2 with ⟨_,hn,_⟩ | ⟨vb,vβ,vc,hiv,rfl,hvc,hvb⟩
 ·omega
 subst hy1
 have hH0 : aP [(0,some (flat aB xs)),(1,some (flat aB [s]))] 0 = some (flat aB xs) := rfl
 have hH1 : aP [(0,some (flat aB xs)),(1,some (flat aB [s]))] 1 = some (flat aB [s]) := rfl
 generalize hHH : aP [(0,some (flat aB xs)),(1,some (flat aB [s]))] = H at *
 rcases g.obj 0 _ hH0 with ⟨q,_⟩ | ⟨b',β',arr,e,q1,hh,hsz,hrd,hX,hW⟩
 ·rw [q] at hib;cases hib
 rw [hib] at q1;cases q1
 rcases g.obj 1 _ hH1 with ⟨q,_⟩ | ⟨b2,β2,arr2,e2,q1,hh2,hsz2,hrd2,hX2,hW2⟩
 ·rw [q] at hiv;cases hiv
 rw [hiv] at q1;cases q1
 have hne : vb ≠ b := fun q => by
  subst q
  have := g.sep 1 0 _ _ _ _ _ hH1 hH0 hiv hib
  omega
 have hbz : lO w b = arr.size := by simp [lO,hh]
 rw [hbz] at hcb
 obtain ⟨lx,hx1,hx2⟩ := RdC.to_list hrd
 obtain ⟨ls,hs1,hs2⟩ := RdC.to_list hrd2
 have hxl := RdL.length hx1
 have hsl := RdL.length hs1
 have hfz : ∀ o,w.frozen? ⟨b,o,none⟩ = false := fun o => by unfold World.frozen?; rw [hh]; simp
 have hfv : ∀ o,w.frozen? ⟨vb,o,none⟩ = false := fun o => by unfold World.frozen?; rw [hh2]; simp
 have hcell : ∀ o, o < arr.size → (w.cell? ⟨b, o, none⟩).isSome = true := fun o ho => by
  unfold World.cell?; simp only [hh]; rw [Array.getElem?_eq_getElem ho]; rfl
 simp only [Nat.add_zero] at *
 have o1 := gB hx1
 have o2 := gB hs1
 by_cases hroom : xs.length + 1 ≤ c
 ·have hsp : (xs.length + 1) * 6 ≤ c * 6 := Nat.mul_le_mul_right _ hroom
  have hsa : w.shape? vb = some (e2,arr2.size) := by unfold World.shape?; rw [hh2]
  have hsb : w.shape? b = some (e,arr.size) := by unfold World.shape?; rw [hh]
  refine (sQ b β xs.length c k vb vβ vc lx ls w hk hroom hne hl (by omega) (by omega) hx2 (fun j hj => hcell _ (by omega)) (fun j hj => hfz _) hs2 o1 o2 _ _ _ _ hsa hsb (by omega) (hfv _) (hfv _)).mono ?_
  rintro e' w' ⟨rfl,rfl⟩
  obtain ⟨g1,c1⟩ := eG g
  have hx3 := RdL.carry c1 _ _ hx1
  have hs3 := RdL.carry c1 _ _ hs1
  have hh' : w.drew.heap[b]? = some (.cells arr e (0,0)) := hh
  have hdl : (lx.drop (k * 6)).length = xs.length * 6 - k * 6 := by rw [List.length_drop]; omega
  obtain ⟨g2,c2,arr',hh3,hs4⟩ := g1.extS Tryz.prog (off := (k + 1) * 6) hH0 hib hh' (by omega) (by rw [hdl]; omega) (jI (k * 6) hx3)
  have hs5 := RdL.carry c2 _ _ hs3
  obtain ⟨g3,c3⟩ := g2.mid Tryz.prog (off := k * 6) (upd_same _ _ _) hib (by rw [hfs,List.length_append,List.length_take,List.length_drop]; omega) hs5
  obtain ⟨g4,c4⟩ := g3.rename (id := 0) (id' := 2) (k := 0) (upd_same _ _ _) (by show 2 ≤ 2;omega) hib (Nat.zero_le _)
  refine ⟨_,.own 2 0 (xs.length + 1) 6,aP [(2,some (flat aB (cL k s xs)))],dA ι 2 (some (some (b,β + 0))),rfl,⟨(),trivial,rfl,fun id cs h => h⟩,?_,?_⟩
  ·simp only [Rd]
   have a1 := c1.bs b
   have a2 := c2.bs b
   have a3 := c3.bs b
   exact .inr ⟨b,β + 0,c,upd_same _ _ _,by simp,hroom,by omega⟩
  ·refine (g4.less (fun id cs h => ?_) (fun _ h => h.elim)).1
   obtain ⟨rfl,rfl⟩ := pC h
   rw [upd_same,List.drop_zero,A3 hfl hfs hk,sZ (by omega)]
 ·have hdl : (lx.drop (k * 6)).length = xs.length * 6 - k * 6 := by rw [List.length_drop]; omega
  refine (vZ b β xs.length c k vb vβ vc lx ls w hk hnc (by omega) hl (by omega) (by omega) hx2 hs2 o1 o2).mono ?_
  rintro e' w' ⟨G,ROW,hG,hRs,hRc,rfl,rfl⟩
  have hsp : (xs.length + 1) * 6 ≤ G * 6 := Nat.mul_le_mul_right _ hG
  obtain ⟨ga, ca⟩ := g.alloc (id := 2) (by show 2 ≤ 2; omega) (arr := ROW) 76 (l := lx.take (k * 6)) (rest := ROW.toList.drop (k * 6)) (by
   have : ROW.toList.take (k * 6) = lx.take (k * 6) := by
    apply List.ext_getElem?
    intro j
    rw [List.getElem?_take,List.getElem?_take]
    split
    ·rename_i hj
     have hv : lx[j]? = some lx[j] := List.getElem?_eq_getElem (by omega)
     have := hRc j _ hj hv
     rw [hv,← this]; simp
    ·rfl
   rw [← this,List.take_append_drop]) (mW (k * 6) hx1)
  have hh0 : (w.alloc (.cells ROW 76)).heap[w.heap.size]? = some (.cells ROW 76 (0,0)) := heap_alloc_new w _
  obtain ⟨gb,cb⟩ := eG ga
  have hxb := RdL.carry cb _ _ (RdL.carry ca _ _ hx1)
  have hsb := RdL.carry cb _ _ (RdL.carry ca _ _ hs1)
  have hh1 : (w.alloc (.cells ROW 76)).drew.heap[w.heap.size]? = some (.cells ROW 76 (0,0)) := hh0
  have ht1 : ((flat aB xs).take (k * 6)).length = k * 6 := by rw [List.length_take]; omega
  obtain ⟨gc,cc,arr3,hh3,hs3⟩ := gb.extS Tryz.prog (id := 2) (off := k * 6) (upd_same _ _ _) (upd_same _ _ _) hh1 (by omega) (by omega) hsb
  rw [Nat.zero_add] at gc cc hh3
  obtain ⟨gd,cd⟩ := eG gc
  have hxd := RdL.carry cd _ _ (RdL.carry cc _ _ hxb)
  obtain ⟨ge,ce,arr4,hh4,hs4⟩ := gd.extS Tryz.prog (id := 2) (off := (k + 1) * 6) (upd_same _ _ _) (upd_same _ _ _) (arr := arr3) (e := 76) hh3 (by rw [List.length_append,List.length_take]; omega) (by rw [hdl]; omega) (jI (k * 6) hxd)
  rw [Nat.zero_add] at ge ce hh4
  refine ⟨_,.own 2 0 (xs.length + 1) 6,aP [(2,some (flat aB (cL k s xs)))],_,rfl,⟨(),trivial,rfl,fun id cs h => h⟩,?_,(ge.less (fun id cs h => ?_) (fun _ h => h.elim)).1⟩
  ·simp only [Rd]
   refine .inr ⟨w.heap.size,0,G,upd_same _ _ _,by simp,hG,?_⟩
   unfold lO;rw [hh4]
   show 0 + 0 + G * 6 ≤ arr4.size
   omega
  ·obtain ⟨rfl, rfl⟩ := pC h
   rw [upd_same,sZ (by omega),List.take_take,Nat.min_self,List.take_of_length_le (by rw [List.length_append]; omega)]
theorem uV {H:Nat → Option (List AV)}{i m e:Nat}{cs:List AV}(h:H i = some cs) (hm:cs.length = m * e):sCells H e (oE (.own i 0 m e)) = some (m,cs):=by
 show sCells H e (.own i 0 m e) = some (m,cs)
 simp only [sCells,h,Option.bind_some,List.drop_zero]
 rw [if_pos (by omega),List.take_of_length_le (by omega)]
theorem EK (xs:List AL.Stmt) (s:AL.Stmt) (hl:xs.length ≤ 1048576):MC Tryz.prog 59 [.own 0 0 xs.length 6,iv (xs.length:Int),.own 1 0 1 6] [(0,some (flat aB xs)),(1,some (flat aB [s]))] 2 (fun _:Unit => True) (fun _ => .own 2 0 (xs.length + 1) 6)
  (fun _ => [(2,some (flat aB (cL xs.length s xs)))]) := by
 have e : flat aB (cL xs.length s xs) = flat aB xs ++ flat aB [s] := by
  unfold cL;rw [List.take_length,List.drop_length,bC]
 rw [e]
 have h1 : (flat aB xs).length = xs.length * 6 := aK aB (e := 6) xs
 have h2 : (flat aB [s]).length = 6 := aK aB (e := 6) [s]
 refine c8 Tryz.func59 Tryz.ntmps59 ?_
 repeat' (first|(apply aH;first|(apply kM (d := 12) (l := xs.length) (h := xs.length);rfl;rfl;exact tJ rfl (by omega);rfl;exact if_pos (by omega);rfl)|(apply cY (d := 25) (new := flat aB [s]) (cs' := flat aB xs ++ flat aB [s]);rfl;rfl;rfl;rfl;rfl;omega;exact uV rfl h2;omega;omega;(rw [List.drop_zero,List.take_of_length_le (by omega)]);rfl;rfl))|refine aF ?_|(refine aU ?_ ?_ <;> intro hc hq <;> try (exfalso;omega))|fail)
 ·(refine aO rfl ?_; refine eS () trivial ?_ ⟨sE ?_, trivial⟩)
  ·rfl
  ·rfl
 ·exfalso;exact (by assumption : ¬ True) trivial
theorem GS {xs:List AL.Stmt}{s:AL.Stmt}{m k:Nat}{N:Nat}{Q:Exit → AS → Prop}{all:Array Oper}{rest:List Oper}{tsl:List (Nat × AV)}{hsl:List (Nat × Option (List AV))}{nidl:Nat}{z0:Lo}{md:Md}{d:Nat}{ty:TypeId}{pos:String}{af:Array Edge}{tys:Array TypeId}{x0 x1 x2:Operand}{i0 i1:Nat}(ha0:ev (lk tsl) x0 = some (.own i0 0 m 6)) (ha1:ev (lk tsl) x1 = some (iv (k:Int))) (ha2:ev (lk tsl) x2 = some (.own i1 0 1 6)) (hH0:aP hsl i0 = some (flat aB xs)) (hH1:aP hsl i1 = some (flat aB [s])) (hdd:Go.AL.distinct [i0,i1] = true) (hmc:MC Tryz.prog 59 [.own 0 0 m 6,iv (k:Int),.own 1 0 1 6] [(0,some (flat aB xs)),(1,some (flat aB [s]))] 2 (fun _:Unit => True) (fun _ => .own 2 0 (m + 1) 6) (fun _ => [(2,some (flat aB (cL k s xs)))])) (hM:Nat.ble (nidl + 1) aX = true) (hN:Nat.blt d N = true){md':Md}[hmd:MdA md (jS [x0,x1,x2] ++ [.inr i0,.inr i1]) (List.map Sum.inr (List.map Prod.fst ([(nidl,some (flat aB (cL k s xs))),(i0,none),(i1,none)]:List (Nat × Option (List AV)))) ++ [.inl d]) md'] (kk:RW Tryz.prog N all Q md' rest ⟨(d,.own nidl 0 (m + 1) 6) :: tsl,mY hsl [(nidl,some (flat aB (cL k s xs))),(i0,none),(i1,none)],nidl + 1,z0⟩):RW Tryz.prog N all Q md (⟨some d,.call ⟨.value (.func 59),#[x0,x1,x2],tys⟩,ty,pos,af,none⟩ :: rest) ⟨tsl,hsl,nidl,z0⟩:=by
 exact cG (l := [x0,x1,x2]) [i0,i1] 3 [(nidl,some (flat aB (cL k s xs))),(i0,none),(i1,none)] hmc (avs := [.own i0 0 m 6,iv (k : Int),.own i1 0 1 6]) (by simp only [evL,ha0,ha1,ha2]) hdd hM hN (md' := md') (hmd := hmd) kk
theorem Ih (xs:List AL.Stmt) (s:AL.Stmt) (m k:Nat) (hm:m = xs.length) (hk:k ≤ m) (hl:m ≤ 1048576):MC Tryz.prog 59 [.own 0 0 m 6,iv (k:Int),.own 1 0 1 6] [(0,some (flat aB xs)),(1,some (flat aB [s]))] 2 (fun _:Unit => True) (fun _ => .own 2 0 (m + 1) 6) (fun _ => [(2,some (flat aB (cL k s xs)))]):=by
 subst hm
 rcases Nat.lt_or_ge k xs.length with h|h
 ·exact D0 xs s k h hl
 ·have e : k = xs.length := by omega
  subst e
  exact EK xs s hl
end Go.Proofs.YtgkalkgplcdnkaaGreat
namespace Go.Proofs.YtgkalkgplcdnkaaGreat
open Go.AL Go.RowKit
noncomputable def oW (q : Prg) : Bool := bE q && @decide (NoI q.types (aE q)) (Classical.propDecidable _)
theorem qB (q:Prg) (w:WG q.types (aE q)) (f:Flows q.types (aE q)) (hv:bE q = true):oW q = f.iss.isEmpty:=by
 unfold oW
 rw [hv,Bool.true_and]
 cases h : f.iss.isEmpty with
 | true => exact @decide_eq_true _ (Classical.propDecidable _) ((NoI.iff w f).1 (List.isEmpty_iff.1 h))
 | false => exact @decide_eq_false _ (Classical.propDecidable _) (fun q => by rw [(NoI.iff w f).2 q] at h;cases h)
theorem Fo (q:Prg) (hl:q.types.length ≤ 1048576) (hs:aI q.body ≤ 1048576):PC Tryz.prog 60 [bY q] (fun r => r = bv (oW q)):=by
 cases hv : bE q with
 | false =>
  have h := w9 q [] hl hs (Cz q hv hl hs)
  rw [hv,Bool.false_and] at h
  unfold oW;rw [hv,Bool.false_and]; exact h
 | true =>
  have w := WG.of_valid hv
  obtain ⟨f⟩ := Flows.ex w
  have h := yU q f hl hs
  rw [hv,Bool.true_and,show rR q f = f.iss from if_pos hv] at h
  rw [qB q w f hv]; exact h
theorem Ic (q:Prg) (hl:q.types.length ≤ 1048576) (hs:aI q.body ≤ 1048576):PC Tryz.prog 54 [bY q] (fun r => r = bv (oW q)):=by
 cases hv : bE q with
 | false =>
  have h := yA q [] hl hs (CG q hv hl hs)
  rw [hv,Bool.false_and] at h
  unfold oW;rw [hv,Bool.false_and]; exact h
 | true =>
  have w := WG.of_valid hv
  obtain ⟨f⟩ := Flows.ex w
  have h := AA q f hl hs
  rw [hv,Bool.true_and,show rR q f = f.iss from if_pos hv] at h
  rw [qB q w f hv]; exact h
def iC (p : Prg) (k : Nat) (v : Int) : Prg := ⟨p.types,cL k (iW v) p.body⟩
def mK (p : Prg) (f : Flows p.types (aE p)) (k : Nat) (v : Int) : Prop := k ≤ p.body.length ∧ eK p.types v = 2 ∧ (f.Aa[b8 (p.body.take k)]!).testBit v.toNat = true
instance (p : Prg) (f : Flows p.types (aE p)) (k : Nat) (v : Int) : Decidable (mK p f k v) := by unfold mK;infer_instance
noncomputable def fO (p : Prg) (f : Flows p.types (aE p)) (k v : Int) : Option Prg := if 0 ≤ k ∧ mK p f k.toNat v ∧ oW (iC p k.toNat v) = true then some (iC p k.toNat v) else none
theorem mZ (b:List AL.Stmt) (k:Nat) (v:Int):aI (cL k (iW v) b) = aI b + 1:=by
 have h := dG (b.take k) (b.drop k)
 rw [List.take_append_drop] at h
 unfold cL
 rw [dG,aI,iW,fK]
 simp only [AL.Stmt.th,AL.Stmt.el,aI]
 omega
theorem Ht (p:Prg) (k v:Int) (hv:bE p = false) (hl:p.types.length ≤ 1048576) (hs:aI p.body ≤ 1048576):PC Tryz.prog 20 [bY p,iv k,iv v] (fun r => r = F5 none):=by
 have hval := fC p hl (by omega)
 rw [hv] at hval
 refine aC Tryz.func20 Tryz.ntmps20 ?_
 repeat' (first|(apply aH;(apply aA (k := 45);rfl;exact hval;exact Pur.pf;rfl))|refine aF ?_|refine dC ?_|fail)
 exact kE (r := none) rfl rfl
theorem HL (p:Prg) (k v:Int) (hv:bE p = false) (hl:p.types.length ≤ 1048576) (hs:aI p.body ≤ 1048576):PC Tryz.prog 19 [bY p,iv k,iv v] (fun r => r = F5 none):=by
 have hval := iD p hl (by omega)
 rw [hv] at hval
 refine aC Tryz.func19 Tryz.ntmps19 ?_
 repeat' (first|(apply aH;(apply aA (k := 40);rfl;exact hval;exact Pur.pf;rfl))|refine aF ?_|fail)
 exact kE (r := none) rfl rfl
theorem Iv (p:Prg) (k v:Int) (hv:bE p = true) (f:Flows p.types (aE p)):PC Tryz.prog 20 [bY p,iv k,iv v] (fun r => r = F5 (fO p f k v)):=by
 obtain ⟨t1,t2,t3⟩ := gE hv
 have htl := dH t1
 have hlen := bR p.body
 have hval := fC p (by omega) (by omega)
 rw [hv] at hval
 by_cases h : 0 ≤ k ∧ k ≤ p.body.length
 ·obtain ⟨k, rfl⟩ : ∃ j : Nat, k = j := ⟨k.toNat, by omega⟩
  have hfp := j1 p k (by omega) (by omega)
  have hpl := fB p
  have hnp := fX p.body k
  have has := jV p (b8 (p.body.take k) : Int) f (by omega) (by omega) ⟨hv,by omega,by omega⟩
  rw [Int.toNat_natCast] at has
  have hci := mZ p.body k v
  have hac := Fo (iC p k v) (by show p.types.length ≤ _; omega) (by show aI (cL k (iW v) p.body) ≤ _; omega)
  by_cases ht : eK p.types v = 2
  ·have hv0 := (fR t1 v).1 (by omega)
   have hsm : f.Aa[b8 (p.body.take k)]! < 2 ^ 62 := Nat.lt_of_lt_of_le ((f.bnd (WG.of_valid hv)).bA (b8 (p.body.take k))) (Nat.pow_le_pow_right (by decide) (by omega))
   have hct := qL f.Aa[b8 (p.body.take k)]! v (by omega) hsm
   have eP : AV.agg [sl cI p.types, .imm (p.body.length + 1) (flat aB (cL k (iW v) p.body))] = bY (iC p k v) := by
    unfold iC;dsimp only [bY]; unfold sl;rw [m8]
   rw [← eP] at hac
   refine aC Tryz.func20 Tryz.ntmps20 ?_
   repeat' (first|(apply aH;first|(apply aA (k := 45);rfl;exact hval;exact Pur.pf;rfl)|(apply aA (k := 48);rfl;exact hfp;exact Pur.pf;rfl)|(apply aA (k := 58);rfl;exact has;exact Pur.pf;rfl)|(apply aA (k := 57);rfl;exact hct;exact Pur.pf;rfl)|(apply Gv;rfl;(apply H4 <;> omega);rfl;rfl)|(apply GS (s := iW v);rfl;rfl;rfl;rfl;rfl;rfl;(apply Ih <;> first|rfl|omega);rfl;rfl)|(with_reducible apply dM (d := 48))|(first|(apply aA (k := 55);rfl;(apply dZ);(rfl);rfl)|(apply aA (k := 56);rfl;(apply jM <;> (omega));exact Pur.pf;rfl)))|refine aF ?_|(refine aU ?_ ?_ <;> intro hc hq <;> try (exfalso;omega))|(refine cE ?_ ?_ <;> intro hg hq <;> try (exfalso;omega))|refine dC ?_|fail)
   ·have : fO p f k v = none := by
     unfold fO mK;rw [if_neg]; rintro ⟨_,⟨_,_,h3⟩,_⟩; rw [Int.toNat_natCast] at h3
     rw [show (f.Aa[b8 (p.body.take k)]!).testBit v.toNat = false by assumption] at h3;cases h3
    rw [this]
    exact kE (r := none) rfl rfl
   ·refine iB (fM ?_ (Le.frzC (j := 5) (i := 7) [sl cI p.types] rfl rfl (by decide)))
    repeat' (first|(apply aH;(apply aA (k := 60);rfl;exact hac;exact Pur.pf;rfl))|refine aF ?_|(refine aU ?_ ?_ <;> intro hc hq <;> try (exfalso;omega))|fail)
    ·have : fO p f k v = none := by
      unfold fO;rw [if_neg]; rintro ⟨_,_,h3⟩; rw [Int.toNat_natCast] at h3
      rw [show oW (iC p k v) = false by assumption] at h3;cases h3
     rw [this]
     exact kE (r := none) rfl rfl
    ·have : fO p f k v = some (iC p k v) := by
      unfold fO mK;rw [if_pos]
      ·rfl
      ·rw [Int.toNat_natCast]; exact ⟨by omega,⟨by omega,ht,by assumption⟩,by assumption⟩
     rw [this]
     have e : aQ [AV.agg [sl cI p.types, .imm (p.body.length + 1) (flat aB (cL k (iW v) p.body))], bv true] = F5 (some (iC p k v)) := by
      show AV.tup [_,_] = AV.tup [bY (iC p k v),bv true]
      rw [eP]
     refine kE ?_ e
     rfl
  ·refine aC Tryz.func20 Tryz.ntmps20 ?_
   repeat' (first|(apply aH;first|(apply aA (k := 45);rfl;exact hval;exact Pur.pf;rfl)|(first|(apply aA (k := 55);rfl;(apply dZ);(rfl);rfl)|(apply aA (k := 56);rfl;(apply jM <;> (omega));exact Pur.pf;rfl)))|refine aF ?_|(refine cE ?_ ?_ <;> intro hg hq <;> try (exfalso;omega))|refine dC ?_|fail)
   have : fO p f k v = none := by
    unfold fO mK;rw [if_neg]; rintro ⟨_,⟨_,h2,_⟩,_⟩; exact ht h2
   rw [this]
   exact kE (r := none) rfl rfl
 ·have : fO p f k v = none := by
   unfold fO mK;rw [if_neg]; rintro ⟨h1,⟨h2,_,_⟩,_⟩; exact h ⟨h1,by omega⟩
  rw [this]
  refine aC Tryz.func20 Tryz.ntmps20 ?_
  repeat' (first|(apply aH;first|(apply aA (k := 45);rfl;exact hval;exact Pur.pf;rfl)|(apply aA (k := 55);rfl;(apply dZ);(rfl);rfl))|refine aF ?_|(refine cE ?_ ?_ <;> intro hg hq <;> try (exfalso;omega))|refine dC ?_|fail)
  all_goals first
   | exact kE (r := none) rfl rfl
   | (exfalso;omega)
theorem G4 {hs:List (Nat × Option (List AV))}{i k:Nat}{xs:List AL.Stmt}(hH:aP hs i = some (flat aB xs)) (hk:k ≤ xs.length):sCells (aP hs) 6 (oE (.own i 0 k 6)) = some (k,flat aB (xs.take k)):=by
 have h1 : (flat aB xs).length = xs.length * 6 := aK aB (e := 6) xs
 show sCells (aP hs) 6 (.own i 0 k 6) = _
 simp only [sCells,hH,Option.bind_some,List.drop_zero]
 rw [if_pos (by omega),show (flat aB xs).take (k * 6) = flat aB (xs.take k) from eH aB (e := 6) xs k]
theorem FT {xs:List AL.Stmt}{m:Nat}(h:xs.length = m) (ys:List AL.Stmt):((flat aB xs).drop 0).take (m * 6) ++ flat aB ys = flat aB (xs ++ ys):=by
 have h1 : (flat aB xs).length = xs.length * 6 := aK aB (e := 6) xs
 rw [List.drop_zero,List.take_of_length_le (by omega),bC]
theorem Fx {xs:List AL.Stmt}{m:Nat}(h:xs.length = m):0 + m * 6 ≤ (flat aB xs).length:=by
 have h1 : (flat aB xs).length = xs.length * 6 := aK aB (e := 6) xs
 omega
theorem Eg {xs:List AL.Stmt}{s:AL.Stmt}{k:Nat}:(xs.take k ++ [s]) ++ xs.drop k = cL k s xs := by unfold cL;rw [List.append_assoc]; rfl
theorem IU (p:Prg) (k v:Int) (hv:bE p = true) (f:Flows p.types (aE p)):PC Tryz.prog 19 [bY p,iv k,iv v] (fun r => r = F5 (fO p f k v)):=by
 obtain ⟨t1,t2,t3⟩ := gE hv
 have htl := dH t1
 have hlen := bR p.body
 have hval := iD p (by omega) (by omega)
 rw [hv] at hval
 by_cases h : (0 ≤ k ∧ k ≤ p.body.length) ∧ (0 ≤ v ∧ v < p.types.length)
 ·obtain ⟨⟨h0, h1⟩, h2, h3⟩ := h
  obtain ⟨k,rfl⟩ : ∃ j : Nat,k = j := ⟨k.toNat,by omega⟩
  obtain ⟨v,rfl⟩ : ∃ j : Nat,v = j := ⟨v.toNat,by omega⟩
  have hty : eK p.types (v : Int) = p.types[v]! := by unfold eK;rw [if_pos (by omega),Int.toNat_natCast]
  have hfp := Ad p k (by omega) (by omega)
  have hpl := fB p
  have hnp := fX p.body k
  have hfa := k3 p true f.Aa (by omega) (WG.of_valid hv) (Rch.of p) (by unfold n8;exact f.ga)
  have hci := mZ p.body k (v : Int)
  have hfl : (flat aB p.body).length = p.body.length * 6 := aK aB (e := 6) p.body
  have hac := Ic (iC p k (v : Int)) (by show p.types.length ≤ _; omega) (by show aI (cL k (iW (v : Int)) p.body) ≤ _; omega)
  have htk : (p.body.take k).length = 0 + k := by rw [List.length_take]; omega
  have htk1 : (p.body.take k ++ [iW (v : Int)]).length = 0 + k + 1 := by rw [List.length_append,htk]; rfl
  have eP : AV.agg [.imm p.types.length (flat cI p.types), .imm (0 + k + 1 + (p.body.length - k)) (flat aB (p.body.take k ++ [iW (v : Int)] ++ p.body.drop k))] = bY (iC p k (v : Int)) := by
   rw [Eg]
   unfold iC;dsimp only [bY]; unfold sl;rw [m8,show 0 + k + 1 + (p.body.length - k) = p.body.length + 1 by omega]
  rw [← eP] at hac
  refine aC Tryz.func19 Tryz.ntmps19 ?_
  repeat' (first|(apply aH;first|(apply aA (k := 40);rfl;exact hval;exact Pur.pf;rfl)|(apply aA (k := 52);rfl;exact hfp;exact Pur.pf;rfl)|(apply BZ;rfl;(apply Fb <;> omega);rfl;rfl)|(apply kM (d := 54) (l := 0) (h := k);rfl;rfl;rfl;exact tJ rfl rfl;exact if_pos (by omega);rfl)|(apply cY (d := 55) (new := flat aB (p.body.take k)) (cs' := flat aB (p.body.take k));rfl;rfl;rfl;rfl;rfl;exact Nat.le_refl _;exact G4 rfl (by omega);omega;omega;rfl;rfl;rfl)|(apply cY (d := 60) (new := flat aB [iW (v : Int)]) (cs' := flat aB (p.body.take k ++ [iW (v : Int)]));(case hx|hy|hze|he0|hH => rfl);(case hl => exact Fx htk);(case hs' => exact uV rfl rfl);(case hbig => omega);(case hmx => omega);(case hcs => exact FT htk _);(case hM|hN => rfl))|(apply kM (d := 65) (l := k) (h := p.body.length);rfl;rfl;exact tJ rfl rfl;rfl;exact if_pos (by omega);rfl)|(apply cY (d := 66) (new := flat aB (p.body.drop k)) (cs' := flat aB (p.body.take k ++ [iW (v : Int)] ++ p.body.drop k));(case hx|hy|hze|he0|hH => rfl);(case hl => exact Fx htk1);(case hs' => exact GK rfl rfl);(case hbig => omega);(case hmx => omega);(case hcs => exact FT htk1 _);(case hM|hN => rfl))|(with_reducible apply dM (d := 68)))|refine aF ?_|(refine aU ?_ ?_ <;> intro hc hq <;> try (exfalso;omega))|(refine cE ?_ ?_ <;> intro hg hq <;> try (exfalso;omega))|fail)
  ·have : fO p f (k : Int) (v : Int) = none := by
    unfold fO mK;rw [if_neg]; rintro ⟨_,⟨_,h3,_⟩,_⟩; rw [hty] at h3
    exact (by assumption : ¬ p.types[v]! = 2) h3
   rw [this]
   exact kE (r := none) rfl rfl
  ·have hrl := eY p.types.length (aE p).length f.Aa
   have hrr := e7 p.types.length (aE p).length f.Aa (b8 (p.body.take k)) (by omega)
   have hrw : ((c6 p.types.length (aE p).length f.Aa)[b8 (p.body.take k)]!).length = p.types.length := by rw [hrr]; simp
   have hrg := jJ p.types.length (aE p).length f.Aa (b8 (p.body.take k)) v (by omega) (by omega)
   generalize (c6 p.types.length (aE p).length f.Aa) = RB at *
   refine iB (fM (fM ?_ (Le.frzC (j := 7) (i := 12) [.imm _ _] rfl rfl (by decide))) (Le.frzC (j := 7) (i := 5) [] rfl rfl (by decide)))
   repeat' (first|(apply aH;first|(apply aA (k := 53);rfl;exact hfa;exact Pur.pf;rfl)|(apply aA (k := 54);rfl;exact hac;exact Pur.pf;rfl))|refine aF ?_|(refine aU ?_ ?_ <;> intro hc hq <;> try (exfalso;omega))|(refine cE ?_ ?_ <;> intro hg hq <;> try (exfalso;omega))|fail)
   ·have : fO p f (k : Int) (v : Int) = none := by
     unfold fO;rw [if_neg]; rintro ⟨_,_,h3⟩; rw [Int.toNat_natCast] at h3
     rw [show oW (iC p k (v : Int)) = false by assumption] at h3;cases h3
    rw [this]
    exact kE (r := none) rfl rfl
   ·have : fO p f (k : Int) (v : Int) = some (iC p k (v : Int)) := by
     unfold fO mK;rw [if_pos]
     ·rfl
     ·rw [Int.toNat_natCast,Int.toNat_natCast]; exact ⟨by omega,⟨by omega,by rw [hty]; assumption,by rw [← hrg]; assumption⟩,by assumption⟩
    rw [this]
    have e : aQ [AV.agg [.imm p.types.length (flat cI p.types), .imm (0 + k + 1 + (p.body.length - k)) (flat aB (p.body.take k ++ [iW (v : Int)] ++ p.body.drop k))], bv true] = F5 (some (iC p k (v : Int))) := by
     show AV.tup [_,_] = AV.tup [bY (iC p k (v : Int)),bv true]
     rw [eP]
    refine kE ?_ e
    rfl
   ·have : fO p f (k : Int) (v : Int) = none := by
     unfold fO mK;rw [if_neg]; rintro ⟨_,⟨_,_,h3⟩,_⟩; rw [Int.toNat_natCast,Int.toNat_natCast,← hrg] at h3
     rw [show RB[b8 (p.body.take k)]![v]! = false by assumption] at h3;cases h3
    rw [this]
    exact kE (r := none) rfl rfl
 ·have : fO p f k v = none := by
   unfold fO mK;rw [if_neg]; rintro ⟨h1,⟨h2,h3,_⟩,_⟩
   have hv0 := (fR t1 v).1 (by omega)
   exact h ⟨⟨h1,by omega⟩,by omega,by omega⟩
  rw [this]
  refine aC Tryz.func19 Tryz.ntmps19 ?_
  repeat' (first|(apply aH;(apply aA (k := 40);rfl;exact hval;exact Pur.pf;rfl))|refine aF ?_|(refine cE ?_ ?_ <;> intro hg hq <;> try (exfalso;omega))|fail)
  all_goals first
   | exact kE (r := none) rfl rfl
   | (exfalso;omega)
end Go.Proofs.YtgkalkgplcdnkaaGreat
