/-
 A part of the proofs over this program: rules and contracts of its functions (the contracts).
-/
import Derived.Test.YtahdccneecdmmaaGreatE2B04
set_option linter.unusedVariables false
set_option linter.unusedSimpArgs false
set_option maxHeartbeats 8000000
set_option maxRecDepth 4000
attribute [local irreducible] Go.AL.RW Go.AL.AW Go.AL.Stop
namespace Go.Proofs.YtahdccneecdmmaaGreat
open Go.AL Go.RowKit
variable {N : Nat} {Q : Exit → AS → Prop} {all : Array Oper} {rest : List Oper} {tsl : List (Nat × AV)} {hsl : List (Nat × Option (List AV))} {nidl : Nat} {z0 : Lo} {md : Md} {d : Nat} {ty : TypeId} {pos : String} {af : Array Edge} {tys : Array TypeId}
theorem CL {ts:List Int}{pts:List Pnt}(w:WG ts pts) (A:WA ts pts):∀ n a cs,a < pts.length → ∀ x ∈ (gF pts n a cs).1,x < pts.length
 | 0, a, cs, ha, x, hx => by
  unfold gF at hx
  by_cases e : pts[a]!.op = 11
  ·rw [if_pos e] at hx;rw [List.mem_singleton.1 hx]; exact ha
  ·rw [if_neg e] at hx;exact absurd hx (by simp)
 | n + 1, a, cs, ha, x, hx => by
  rw [gF] at hx
  by_cases e : pts[a]!.op = 11
  ·rw [if_pos e] at hx;rw [List.mem_singleton.1 hx]; exact ha
  ·rw [if_neg e] at hx
   rcases List.mem_cons.1 hx with h|h
   ·rw [h]; exact ha
   ·have he := HU w A ha e cs
    have := w.nx a ha _ he.2
    exact CL w A n _ _ (by omega) x h
theorem rS {pts:List Pnt}:∀ n a cs,(gF pts n a cs).1.length ≤ n + 1
 | 0,a,cs => by unfold gF;split <;> simp
 | n + 1, a, cs => by
  rw [gF]; split
  ·simp
  ·have := rS (pts := pts) n (hZ pts a cs).1 (hZ pts a cs).2
   dsimp only;rw [List.length_cons]; omega
theorem Gz (p:Prg) (cs:List Int) (n:Nat) (hv:bK p = true) (hl:p.types.length ≤ 1048576) (hs:aU p.body ≤ 1048576) (hn:n ≤ 150) (hcl:cs.length ≤ 1048576):PC Go.Proofs.Tryz.prog 154 [bQ p,sl cI cs,iv (n:Int)] (fun r => r = .tup [fB (jE p.types (aC p) cs n).1,iv (jE p.types (aC p) cs n).2.1,iv (jE p.types (aC p) cs n).2.2]) :=
 Js p cs n hv hl hs hn hcl (CL (WG.of_valid hv) (WA.of_valid hv) n 0 cs (WG.of_valid hv).p0) (by have := rS (pts := aC p) n 0 cs;omega)
def DY (p : Prg) (most : Int) : Bool := bK p && (decide (0 ≤ most) && decide (most ≤ 150))
theorem Fy (p:Prg) (most:Int) (hl:p.types.length ≤ 1048576) (hs:aU p.body ≤ 1048576):PC Tryz.prog 153 [bQ p,iv most] (fun r => r = bv (DY p most)):=by
 have hval := j6 p hl (by omega)
 refine aB Tryz.func153 Tryz.ntmps153 ?_
 repeat' (first|(apply aF;(apply aA (k := 61);rfl;exact hval;exact Pur.pf;rfl))|refine aE ?_|(refine bO ?_ ?_ <;> intro hg hq <;> try (exfalso;omega))|fail)
 all_goals (refine aD rfl ⟨?_,rfl⟩; simp only [aM,AV.v.injEq,Value.bool.injEq]; unfold DY;grind)
theorem uS (p:Prg) (cs:List Int) (most:Int) (hl:p.types.length ≤ 1048576) (hs:aU p.body ≤ 1048576) (hcl:cs.length ≤ 1048576):PC Tryz.prog 84 [bQ p,sl cI cs,iv most] (fun r => r = .tup (if DY p most = true then [iv (jE p.types (aC p) cs most.toNat).2.1,iv (jE p.types (aC p) cs most.toNat).2.2] else [iv 5,iv 0])):=by
 have hrt := Fy p most hl hs
 by_cases h : DY p most = true
 ·have h' := h
  unfold DY at h'
  simp only [Bool.and_eq_true,decide_eq_true_eq] at h'
  obtain ⟨hv,h0,h1⟩ := h'
  have hru := Gz p cs most.toNat hv hl hs (by omega) hcl
  rw [Int.toNat_of_nonneg h0] at hru
  rw [h] at hrt
  rw [if_pos h]
  refine aB Tryz.func84 Tryz.ntmps84 ?_
  repeat' (first|(apply aF;first|(apply aA (k := 153);rfl;exact hrt;exact Pur.pf;rfl)|(apply aA (k := 154);rfl;exact hru;exact Pur.pf;rfl))|refine aE ?_|fail)
  exact aD (l := [iv (jE p.types (aC p) cs most.toNat).2.1,iv (jE p.types (aC p) cs most.toNat).2.2]) rfl ⟨rfl,rfl⟩
 ·rw [if_neg h]
  have h2 : DY p most = false := by simpa using h
  rw [h2] at hrt
  refine aB Tryz.func84 Tryz.ntmps84 ?_
  repeat' (first|(apply aF;(apply aA (k := 153);rfl;exact hrt;exact Pur.pf;rfl))|refine aE ?_|fail)
  exact aD (l := [iv 5,iv 0]) rfl ⟨rfl,rfl⟩
theorem MV {p:Prg}{cs:List Int}{n:Nat}(hv:bK p = true):OkS p.types.length (jE p.types (aC p) cs n).1:=by
 have wa := WA.of_valid hv
 have hp : ∀ a : Nat, PtN (aC p)[a]! := fun a => by
  by_cases h : a < (aC p).length
  ·exact ⟨fun e => (wa.a a h).n (.inr e)⟩
  ·refine ⟨fun e => ?_⟩
   rw [GL,dif_neg h] at e
   exact absurd e (by decide)
 exact OkS.run hp _ _ _ (OkS.mc0 _)
theorem Bd {ts:List Int}{s:Mc}{x:Pnt}:(c7 ts s x).1.read.length ≤ s.read.length + 1:=by
 by_cases h : x.op = 11
 ·rw [GC h,s9]; omega
 ·exact zW h
theorem u5 (ts:List Int) (pts:List Pnt):∀ (l:List Nat) (s:Mc) (last:Nat),(nB ts pts l s last).1.read.length ≤ s.read.length + l.length
 | [],s,last => by unfold nB;simp
 | a :: l, s, last => by
  have h := Bd (ts := ts) (s := s) (x := pts[a]!)
  unfold nB;split
  ·dsimp only;omega
  ·split
   ·have := u5 ts pts l (c7 ts s pts[a]!).1 a
    rw [List.length_cons]; omega
   ·rw [List.length_cons]; dsimp only;omega
theorem B9 {ts:List Int}{pts:List Pnt}{cs:List Int}{n:Nat}(hn:n ≤ 150):(jE ts pts cs n).1.read.length ≤ 151:=by
 have h := u5 ts pts (gF pts n 0 cs).1 (mc0 ts.length) 0
 have h2 := rS (pts := pts) n 0 cs
 have h3 : (mc0 ts.length).read.length = 0 := rfl
 unfold jE;omega
theorem N9:Go.Proofs.Tryz.prog.underlying 280 = some (.map 3 4) := by kernel_rfl
theorem NK:Go.Proofs.Tryz.prog.underlying 3 = some (.int .i64) := by kernel_rfl
theorem Oq:(Go.Proofs.Tryz.prog.info? 4).bind (·.zero) = some (.bool false) := by kernel_rfl
theorem NJ {a b c:Int}(h:a ≤ b ∧ b ≤ c):(!(decide (a ≤ b) && decide (b ≤ c))) = false := by simp [h.1,h.2]
theorem gR (m:List Cl) (hm:OkM m):PC Tryz.prog 239 [sl bE m] (fun r => r = bv true):=by
 have hml := hm.l
 refine aB Tryz.func239 Tryz.ntmps239 ?_
 repeat' (first|refine aE ?_|(refine aJ ?_ ?_ <;> intro hc hq <;> try (exfalso;omega))|fail)
 all_goals (try (exfalso;omega))
 refine aH (σ := Nat) [11,12] [] (fun i => [(13,iv (i : Int))]) (fun i => []) (fun i => i ≤ m.length) (fun i => m.length - i) (0) (Nat.zero_le _) ?_
 rintro i hi
 by_cases hin : i < m.length
 ·have hc := (cL m).1 hm |>.2 i hin
  obtain ⟨h1,h2,h3,h4,h5⟩ := (o9 _).1 hc
  repeat' (first|(apply aF;(apply aA (k := 54);rfl;(apply c9);(rfl);rfl))|(apply CV;with_reducible apply Ih)|refine aE ?_|(refine aJ ?_ ?_ <;> intro hc hq <;> try (exfalso;omega))|(refine bO ?_ ?_ <;> intro hg hq <;> try (exfalso;omega))|fail)
  ·exfalso
   have hu : m[i]!.stk[Int.toNat 0]!.uq = false := by assumption
   rw [show Int.toNat 0 = 0 from rfl,h4] at hu;exact absurd hu (by decide)
  ·refine LX (FY rfl (fun r => ?_))
   refine zZ ?_
   repeat' (first|refine Gt ?_|fail)
   refine ⟨rfl,rfl,?_⟩
   refine kN (oD ?_)
   repeat' (first|refine aE ?_|fail)
   show rP _ _ _ _ _ _ _
   refine uZ ?_
   refine DZ (σ := Nat) [4,5,11,12,13,44,45] [(4,_),(5,_),(11,_),(12,_),(13,_),(44,_),(45,_)] [0] [(0,some _)] (fun k => [(46,iv (k : Int))]) (fun k => []) (fun k => (m[i]!.stk.take k).map (·.id)) (fun k => k ≤ m[i]!.stk.length) (fun k => m[i]!.stk.length - k) (0) (Nat.zero_le _) (rfl) rfl rfl (by repeat' (first|exact trivial|refine And.intro rfl ?_)) (by repeat' (exact trivial)) ?_
   rintro k hk
   refine kN (oD ?_)
   repeat' (first|refine aE ?_|fail)
   show rP _ _ _ _ _ _ _
   refine kN (Bg rfl (fun hb => Be ?_) (fun hb => Gn ?_))
   ·show rP _ _ _ _ _ _ _
    have hkl : k < m[i]!.stk.length := by have := of_decide_eq_true hb;omega
    obtain ⟨g1,g2,g3⟩ := h5 k hkl
    have hw := NJ (a := 0) (b := m[i]!.stk[k]!.id) (c := m[i]!.next - 1) ⟨g1,by omega⟩
    have hni : m[i]!.stk[k]!.id ∉ (m[i]!.stk.take k).map (·.id) := fun q => by
     obtain ⟨t,ht,e⟩ := List.mem_map.1 q
     obtain ⟨j,hj,rfl⟩ := List.getElem_of_mem ht
     rw [List.length_take] at hj
     have f := tO (stk := m[i]!.stk) (id := m[i]!.stk[k]!.id) (by omega) j (by omega)
     rw [aS _ _ (by omega)] at f
     rw [List.getElem_take] at e
     exact f e
    refine kN (uZ (kN (oD ?_)))
    repeat' (first|refine aE ?_|fail)
    show rP _ _ _ _ _ _ _
    refine kN (kN (tY ?_))
    refine Bo (l1 := [_,_,_,_,_,_,_,_,_,_,_]) (l2 := [_,_]) ?_
    repeat' (first|(apply aF;(apply aA (k := 54);rfl;(apply c9);(rfl);rfl))|refine Gt ?_|fail)
    refine ⟨rfl,?_⟩
    refine Ft rfl rfl hw ?_
    refine CG N9 NK Oq rfl rfl hni rfl ?_
    refine zZ ?_
    repeat' (first|refine Gt ?_|fail)
    refine ⟨rfl,?_⟩
    show rP _ _ _ _ _ _ _
    refine Bg rfl (fun h => by cases h) (fun _ => Be ?_)
    show rP _ _ _ _ _ _ _
    refine tY ?_
    refine Bo (l1 := [_,_,_]) (l2 := [_]) ?_
    repeat' (first|refine Gt ?_|fail)
    refine ⟨rfl,?_⟩
    refine CK N9 NK Oq rfl rfl hni ?_
    refine Jy ?_
    show rP _ _ _ _ _ _ _
    refine oD ?_
    repeat' (first|refine aE ?_|fail)
    refine ⟨k + 1,by omega,by omega,?_,?_⟩
    ·refine Le.ren [(0,0)] rfl (by decide) ?_ ?_ <;> repeat' (first|exact trivial|refine And.intro ⟨_,rfl,?_⟩ ?_|refine And.intro ⟨_,_,rfl,rfl,?_⟩ ?_|exact Or.inr rfl|refine Or.inl ⟨?_,(by first|rfl|exact a9 _ _|exact Pur.pf)⟩|rfl)
    ·rw [b0 _ k hkl,List.map_append]; rfl
   ·have hkl : k = m[i]!.stk.length := by have := of_decide_eq_false hb; omega
    refine GM ?_
    show wV 1 _ _ _
    repeat' (first|refine aE ?_|fail)
    (refine bC (i + 1) (Le.renA []) ?_ ?_)
    ·omega
    ·omega
 ·repeat' (first | refine aE ?_ | (refine aJ ?_ ?_ <;> intro hc hq <;> try (exfalso; omega))|fail)
  refine aD rfl ⟨rfl,rfl⟩
theorem Le.bump {ts:List (Nat × AV)}{hs:List (Nat × Option (List AV))}{n:Nat}{z0:Lo}(k:Nat):Le ⟨ts,hs,n,z0⟩ ⟨ts,hs,n + k,z0⟩ := Le.of (fun _ _ h => h) (fun _ _ h => h) (Nat.le_add_right _ _) rfl
theorem vY {m:List Cl}{x0:Operand}(ha0:ev (lk tsl) x0 = some (sl bE m)) (hmc:MC Tryz.prog 265 [sl bE m] [] 0 (fun _:Unit => True) (fun _ => .own 1 0 m.length 4) (fun _ => [(1,some (flat bE m))])) (hM:Nat.ble (nidl + 2) aV = true) (hN:Nat.blt d N = true){md':Md}[hmd:MdA md (fU [x0] ++ []) (List.map Sum.inr (List.map Prod.fst ([((nidl + 1),some (flat bE m))]:List (Nat × Option (List AV)))) ++ [.inl d]) md'] (kk:RW Tryz.prog N all Q md' rest ⟨(d,.own (nidl + 1) 0 m.length 4) :: tsl,hO hsl [((nidl + 1),some (flat bE m))],nidl + 2,z0⟩):RW Tryz.prog N all Q md (⟨some d,.call ⟨.value (.func 265),#[x0],tys⟩,ty,pos,af,none⟩ :: rest) ⟨tsl,hsl,nidl,z0⟩:=by
 exact aZ (l := [x0]) [] 2 [((nidl + 1),some (flat bE m))] hmc (avs := [sl bE m]) (by simp only [evL,ha0]) rfl hM hN (md' := md') (hmd := hmd) kk
theorem Bc (m:List Cl) (hl:m.length ≤ 1048576):MC Tryz.prog 265 [sl bE m] [] 0 (fun _:Unit => True) (fun _ => .own 1 0 m.length 4) (fun _ => [(1,some (flat bE m))]):=by
 refine aX Tryz.func265 Tryz.ntmps265 ?_
 repeat' (first|(apply aF;(apply zO;rfl;rfl;(intro b hb)))|refine aE ?_|(refine aJ ?_ ?_ <;> intro hc hq <;> try (exfalso;omega))|fail)
 ·have h0 : m = [] := List.eq_nil_of_length_eq_zero (hb (by assumption))
  subst h0
  refine aR (Le.bump 1) ?_
  refine aR (Le.nilOwn (d := 2) 4 rfl (by decide)) ?_
  (refine aD rfl ?_; refine aT () trivial ?_ ⟨sE ?_,trivial⟩)
  ·rfl
  ·rfl
 ·(refine aD rfl ?_; refine aT () trivial ?_ ⟨sE ?_, trivial⟩)
  ·show AV.own 1 0 (0 + m.length) 4 = _; rw [Nat.zero_add]
  ·rfl
theorem p8 {m:List Tg}{x0:Operand}(ha0:ev (lk tsl) x0 = some (sl b6 m)) (hmc:MC Tryz.prog 266 [sl b6 m] [] 0 (fun _:Unit => True) (fun _ => .own 1 0 m.length 2) (fun _ => [(1,some (flat b6 m))])) (hM:Nat.ble (nidl + 2) aV = true) (hN:Nat.blt d N = true){md':Md}[hmd:MdA md (fU [x0] ++ []) (List.map Sum.inr (List.map Prod.fst ([((nidl + 1),some (flat b6 m))]:List (Nat × Option (List AV)))) ++ [.inl d]) md'] (kk:RW Tryz.prog N all Q md' rest ⟨(d,.own (nidl + 1) 0 m.length 2) :: tsl,hO hsl [((nidl + 1),some (flat b6 m))],nidl + 2,z0⟩):RW Tryz.prog N all Q md (⟨some d,.call ⟨.value (.func 266),#[x0],tys⟩,ty,pos,af,none⟩ :: rest) ⟨tsl,hsl,nidl,z0⟩:=by
 exact aZ (l := [x0]) [] 2 [((nidl + 1),some (flat b6 m))] hmc (avs := [sl b6 m]) (by simp only [evL,ha0]) rfl hM hN (md' := md') (hmd := hmd) kk
theorem zF (m:List Tg) (hl:m.length ≤ 1048576):MC Tryz.prog 266 [sl b6 m] [] 0 (fun _:Unit => True) (fun _ => .own 1 0 m.length 2) (fun _ => [(1,some (flat b6 m))]):=by
 refine aX Tryz.func266 Tryz.ntmps266 ?_
 repeat' (first|(apply aF;(apply zO;rfl;rfl;(intro b hb)))|refine aE ?_|(refine aJ ?_ ?_ <;> intro hc hq <;> try (exfalso;omega))|fail)
 ·have h0 : m = [] := List.eq_nil_of_length_eq_zero (hb (by assumption))
  subst h0
  refine aR (Le.bump 1) ?_
  refine aR (Le.nilOwn (d := 2) 2 rfl (by decide)) ?_
  (refine aD rfl ?_; refine aT () trivial ?_ ⟨sE ?_,trivial⟩)
  ·rfl
  ·rfl
 ·(refine aD rfl ?_; refine aT () trivial ?_ ⟨sE ?_, trivial⟩)
  ·show AV.own 1 0 (0 + m.length) 2 = _; rw [Nat.zero_add]
  ·rfl
theorem Iw (t:Tg) (c g:Int):PC Tryz.prog 268 [OZ t,.iptr [iv c,iv g]] (fun r => r = bv (decide (t.id = g))):=by
 refine aB Tryz.func268 Tryz.ntmps268 ?_
 repeat' (first|refine aE ?_|fail)
 exact aD rfl ⟨rfl,rfl⟩
theorem Bh (t:Tg):PC Tryz.prog 270 [OZ t] (fun r => r = bv t.uq):=by
 refine aB Tryz.func270 Tryz.ntmps270 ?_
 repeat' (first|refine aE ?_|fail)
 exact aD rfl ⟨rfl,rfl⟩
theorem yQ (stk:List Tg) (c g:Int) (hl:stk.length ≤ 1048576):PC Tryz.prog 267 [sl b6 stk,.clos (.func 268) [] [.iptr [iv c,iv g]]] (fun r => r = iv (b7 stk g)):=by
 refine aB Tryz.func267 Tryz.ntmps267 ?_
 repeat' (first|refine aE ?_|fail)
 refine aH (σ := Nat) [0,1,7] [] (fun k => [(8,iv (k : Int))]) (fun k => []) (fun k => k ≤ stk.length ∧ ∀ j,j < k → stk[j]!.id ≠ g) (fun k => stk.length - k) (0) ⟨by omega,by omega⟩ ?_
 rintro k ⟨hk,hall⟩
 by_cases hkn : k < stk.length
 ·have hcl := Iw stk[k]! c g
  repeat' (first|(apply aF;(apply fW;rfl;rfl;infer_instance;rfl;(apply hcl);(rfl);rfl))|refine aE ?_|(refine aJ ?_ ?_ <;> intro hc hq <;> try (exfalso;omega))|fail)
  ·refine aD rfl ⟨?_, rfl⟩
   simp only [aM]; rw [w9 hkn (by assumption) hall]
  ·(refine bC (k + 1) (Le.renA []) ?_ ?_)
   ·refine ⟨by omega, fun j hj => ?_⟩
    by_cases e : j = k
    ·subst e;assumption
    ·exact hall j (by omega)
   ·omega
 ·repeat' (first | refine aE ?_ | (refine aJ ?_ ?_ <;> intro hc hq <;> try (exfalso; omega))|fail)
  refine aD rfl ⟨?_,rfl⟩
  have h2 : b7 stk g < 0 := pX.2 (fun t ht => by obtain ⟨j,hj,rfl⟩ := List.getElem_of_mem ht;have := hall j (by omega);rwa [aS _ _ hj] at this)
  have hb := dX stk g
  simp only [aM]; rw [show b7 stk g = -1 by omega]
def qT (xs : List Tg) : Int := match xs.findIdx? (fun t => t.uq) with | some i => i | none => -1
theorem KE (stk:List Tg) (hl:stk.length ≤ 1048576):PC Tryz.prog 267 [sl b6 stk,.v (.func (.func 270) #[] #[])] (fun r => r = iv (qT stk)):=by
 refine aB Tryz.func267 Tryz.ntmps267 ?_
 repeat' (first|refine aE ?_|fail)
 refine aH (σ := Nat) [0,1,7] [] (fun k => [(8,iv (k : Int))]) (fun k => []) (fun k => k ≤ stk.length ∧ ∀ j,j < k → stk[j]!.uq = false) (fun k => stk.length - k) (0) ⟨by omega,by omega⟩ ?_
 rintro k ⟨hk,hall⟩
 by_cases hkn : k < stk.length
 ·have hcl := Bh stk[k]!
  repeat' (first|(apply aF;(apply fW;rfl;rfl;infer_instance;rfl;(apply hcl);(rfl);rfl))|refine aE ?_|(refine aJ ?_ ?_ <;> intro hc hq <;> try (exfalso;omega))|fail)
  ·refine aD rfl ⟨?_, rfl⟩
   have hu : stk[k]!.uq = true := by assumption
   have : stk.findIdx? (fun t => t.uq) = some k := by
    rw [List.findIdx?_eq_some_iff_getElem]
    refine ⟨hkn,by rw [← aS stk k hkn]; exact hu,fun j hj => ?_⟩
    have := hall j hj;rw [aS stk j (by omega)] at this;rw [this]; decide
   simp only [aM,qT,this]
  ·have hu : stk[k]!.uq = false := by assumption
   (refine bC (k + 1) (Le.renA []) ?_ ?_)
   ·refine ⟨by omega, fun j hj => ?_⟩
    by_cases e : j = k
    ·subst e;exact hu
    ·exact hall j (by omega)
   ·omega
 ·repeat' (first | refine aE ?_ | (refine aJ ?_ ?_ <;> intro hc hq <;> try (exfalso; omega))|fail)
  refine aD rfl ⟨?_,rfl⟩
  have : stk.findIdx? (fun t => t.uq) = none := by
   rw [List.findIdx?_eq_none_iff]
   intro x hx
   obtain ⟨j,hj,rfl⟩ := List.getElem_of_mem hx
   have := hall j (by omega);rw [aS stk j hj] at this;exact this
  simp only [aM,qT,this]
theorem NQ {xs:List Tg}{k:Nat}{a:Int}{b:Bool}(hk:k < xs.length):gM (flat b6 xs) (0 + k * 2) [iv a,bv b] = flat b6 (xs.set k ⟨a,b⟩) := fH hk rfl
theorem GY {cs new:List AV}{k:Nat}(h:k ≤ cs.length):(gM cs (0 + k) new).take k = cs.take k:=by
 unfold gM
 rw [Nat.zero_add,List.append_assoc,List.take_left' (by rw [List.length_take]; omega)]
def shr (xs : List Tg) : List Tg := xs.filter (fun t => !t.uq)
theorem EK {xs:List Tg}(h:qT xs = -1):shr xs = xs:=by
 unfold qT at h
 split at h
 ·omega
 ·rename_i hn
  rw [List.findIdx?_eq_none_iff] at hn
  unfold shr
  rw [List.filter_eq_self]
  intro t ht
  have := hn t ht
  simp [this]
theorem Fv {xs:List Tg}{i:Nat}(h:qT xs = (i:Int)):i < xs.length ∧ xs[i]!.uq = true ∧ shr (xs.take (i + 1)) = xs.take i:=by
 unfold qT at h
 split at h
 ·rename_i k hk
  obtain ⟨h1,h2,h3⟩ := List.findIdx?_eq_some_iff_getElem.1 hk
  have e : k = i := by omega
  subst e
  have hs : shr (xs.take k) = xs.take k := by
   unfold shr
   rw [List.filter_eq_self]
   intro t ht
   obtain ⟨j,hj,rfl⟩ := List.getElem_of_mem ht
   rw [List.length_take] at hj
   have := h3 j (by omega)
   rw [List.getElem_take]; simpa using this
  refine ⟨h1,by rw [aS _ _ h1]; exact h2,?_⟩
  rw [b0 xs k h1]
  unfold shr at hs ⊢
  rw [List.filter_append,hs,mV (by rw [aS _ _ h1,h2]; rfl),List.append_nil]
 ·omega
theorem Ja (xs:List Tg):-1 ≤ qT xs ∧ qT xs < xs.length:=by
 unfold qT
 split
 ·rename_i k hk
  obtain ⟨h1,_⟩ := List.findIdx?_eq_some_iff_getElem.1 hk
  omega
 ·omega
theorem Jr {xs:List Tg}{j:Nat}(hj:j < xs.length) (h:xs[j]!.uq = false):shr (xs.take (j + 1)) = shr (xs.take j) ++ [xs[j]!]:=by
 rw [b0 xs j hj]; unfold shr
 rw [List.filter_append,pS (by rw [h]; rfl)]
theorem HN {xs:List Tg}{j:Nat}(hj:j < xs.length) (h:xs[j]!.uq = true):shr (xs.take (j + 1)) = shr (xs.take j):=by
 rw [b0 xs j hj]; unfold shr
 rw [List.filter_append,mV (by rw [h]; rfl),List.append_nil]
theorem Hm {α:Type}[Inhabited α] {L:List α}{i:Nat}{x:α}(h:i < L.length):(L.set i x).take (i + 1) = L.take i ++ [x]:=by
 rw [List.set_eq_take_append_cons_drop,if_pos h]
 have h1 : (L.take i).length = i := by rw [List.length_take]; omega
 rw [List.take_append,h1,show i + 1 - i = 1 by omega,List.take_of_length_le (by omega)]
 rfl
theorem Ik {α:Type}[Inhabited α] {L M:List α}{j:Nat}(h:L.drop j = M.drop j) (hl:L.length = M.length) (hj:j < M.length):L[j]! = M[j]!:=by
 rw [aS _ _ (by omega),aS _ _ hj]
 rw [List.drop_eq_getElem_cons (by omega : j < L.length),List.drop_eq_getElem_cons hj] at h
 exact (List.cons.inj h).1
theorem tI {α:Type}{L M:List α}{j:Nat}(h:L.drop j = M.drop j):L.drop (j + 1) = M.drop (j + 1):=by
 rw [← List.drop_drop,h,List.drop_drop]
theorem Kc {xs:List Tg}{m:Nat}{x0 x1:Operand}{i0:Nat}(ha0:ev (lk tsl) x0 = some (.own i0 0 m 2)) (ha1:ev (lk tsl) x1 = some (.v (.func (.func 270) #[] #[]))) (hH0:aO hsl i0 = some (flat b6 xs)) (hmc:MC Tryz.prog 269 [.own 0 0 m 2,.v (.func (.func 270) #[] #[])] [(0,some (flat b6 xs))] 1 (fun _:Unit => True) (fun _ => .own 0 0 (shr xs).length 2) (fun _ => [(0,some (flat b6 (shr xs)))])) (hM:Nat.ble (nidl + 0) aV = true) (hN:Nat.blt d N = true){md':Md}[hmd:MdA md (fU [x0,x1] ++ [.inr i0]) (List.map Sum.inr (List.map Prod.fst ([(i0,some (flat b6 (shr xs)))]:List (Nat × Option (List AV)))) ++ [.inl d]) md'] (kk:RW Tryz.prog N all Q md' rest ⟨(d,.own i0 0 (shr xs).length 2) :: tsl,hO hsl [(i0,some (flat b6 (shr xs)))],nidl + 0,z0⟩):RW Tryz.prog N all Q md (⟨some d,.call ⟨.value (.func 269),#[x0,x1],tys⟩,ty,pos,af,none⟩ :: rest) ⟨tsl,hsl,nidl,z0⟩:=by
 exact aZ (l := [x0,x1]) [i0] 1 [(i0,some (flat b6 (shr xs)))] hmc (avs := [.own i0 0 m 2,.v (.func (.func 270) #[] #[])]) (by simp only [evL,ha0,ha1]) rfl hM hN (md' := md') (hmd := hmd) kk
theorem M6 (xs:List Tg) (m:Nat) (hm:m = xs.length) (hl:m ≤ 1048576):MC Tryz.prog 269 [.own 0 0 m 2,.v (.func (.func 270) #[] #[])] [(0,some (flat b6 xs))] 1 (fun _:Unit => True) (fun _ => .own 0 0 (shr xs).length 2) (fun _ => [(0,some (flat b6 (shr xs)))]):=by
 subst hm
 have hix := KE xs hl
 have hbd := Ja xs
 by_cases hn : qT xs = -1
 ·rw [hn] at hix
  have hs := EK hn
  refine aX Tryz.func269 Tryz.ntmps269 ?_
  repeat' (first|(apply aF;(apply pD (k := 267);(case ha => rfl);(case hl => (repeat' (first|exact m7|apply kM|exact yO|exact mP rfl inferInstance)));(case h => exact hix);(case hfr|hN => rfl);(case hmd => infer_instance)))|refine aE ?_|fail)
  all_goals (
   (refine aD rfl ?_; refine aT () trivial ?_ ⟨sE ?_,trivial⟩)
   ·rw [hs]; rfl
   ·rw [hs])
 ·obtain ⟨i0, hi0⟩ := Int.eq_ofNat_of_zero_le (show 0 ≤ qT xs by omega)
  obtain ⟨g1,g2,g3⟩ := Fv hi0
  rw [hi0] at hix
  refine aX Tryz.func269 Tryz.ntmps269 ?_
  repeat' (first|(apply aF;(apply pD (k := 267);(case ha => rfl);(case hl => (repeat' (first|exact m7|apply kM|exact yO|exact mP rfl inferInstance)));(case h => exact hix);(case hfr|hN => rfl);(case hmd => infer_instance)))|refine aE ?_|fail)
  all_goals (try (exfalso;omega))
  refine aH (σ := List Tg × Nat × Nat) [0,1] [] (fun s => [(5,iv (s.2.1 : Int)),(6,iv (s.2.2 : Int))]) (fun s => [(0,some (flat b6 s.1))]) (fun s => s.1.length = xs.length ∧ s.1.take s.2.1 = shr (xs.take s.2.2) ∧ s.1.drop s.2.2 = xs.drop s.2.2 ∧ s.2.1 < s.2.2 ∧ s.2.2 ≤ xs.length) (fun s => xs.length - s.2.2) (xs,i0,i0 + 1) ⟨rfl,g3.symm,rfl,by dsimp only;omega,by dsimp only;omega⟩ ?_
  rintro ⟨L,i,j⟩ ⟨hL,ht,hd,hij,hj⟩
  dsimp only at hL ht hd hij hj ⊢
  by_cases hjn : j < xs.length
  ·have hcl := Bh L[j]!
   have hg := Ik hd hL hjn
   repeat' (first|(apply aF;first|(apply bB;rfl;rfl;rfl;rfl;rfl;(case hl => (first|(rw [aI]; simp only [gB] <;> omega)|(simp;done)));(exact NQ (by (first|assumption|omega))))|(apply fW;rfl;rfl;infer_instance;rfl;(apply hcl);(rfl);rfl))|refine aE ?_|(refine aJ ?_ ?_ <;> intro hc hq <;> try (exfalso;omega))|fail)
   ·have hu : L[j]!.uq = false := by assumption
    (refine bC (_,i + 1,j + 1) (Le.renA []) ?_ ?_)
    ·refine ⟨by dsimp only; rw [List.length_set]; exact hL, ?_, ?_, by dsimp only; omega, by dsimp only; omega⟩
     ·dsimp only
      rw [Hm (by omega),ht,Jr hjn (by rw [← hg]; exact hu),hg]
     ·dsimp only
      rw [List.drop_set_of_lt (by omega)]
      exact tI hd
    ·dsimp only;omega
   ·have hu : L[j]!.uq = true := by assumption
    (refine bC (L,i,j + 1) (Le.renA []) ?_ ?_)
    ·refine ⟨hL, ?_, tI hd, by dsimp only; omega, by dsimp only; omega⟩
     dsimp only
     rw [ht,HN hjn (by rw [← hg]; exact hu)]
    ·dsimp only;omega
  ·have hfl : (flat b6 L).length = L.length * 2 := aI b6 L
   repeat' (first|(apply aF;first|(apply gV (d := 38) (l := i) (h := xs.length);rfl;rfl;exact p9 rfl (by omega);rfl;exact if_pos (by omega);rfl)|(apply gV (d := 41) (l := 0) (h := i);rfl;rfl;rfl;exact p9 rfl (by omega);exact if_pos (by omega);rfl)|(apply Ib;rfl;rfl;omega;rfl;(rw [hfl]; omega);rfl))|refine aE ?_|(refine aJ ?_ ?_ <;> intro hc hq <;> try (exfalso;omega))|fail)
   refine aR (Le.cut (i := 0) (i * 2) rfl) ?_
   have hje : j = xs.length := by omega
   have hLt : L.take i = shr xs := by rw [ht,hje,List.take_length]
   have hil : (shr xs).length = i := by rw [← hLt,List.length_take]; omega
   (refine aD rfl ?_; refine aT () trivial ?_ ⟨sE ?_,trivial⟩)
   ·show AV.own 0 (0 + 0 * 2) (i - 0) 2 = _
    rw [hil]; rfl
   ·rw [GY (by omega),dK b6 (e := 2),hLt]
theorem gS {m:List Cl}{x0:Operand}(ha0:ev (lk tsl) x0 = some (sl bE m)) (hmc:MC Tryz.prog 241 [sl bE m] [] 0 (fun _:Unit => True) (fun _ => .own 1 0 m.length 4) (fun _ => [(1,some (flat bE m))])) (hM:Nat.ble (nidl + 2) aV = true) (hN:Nat.blt d N = true){md':Md}[hmd:MdA md (fU [x0] ++ []) (List.map Sum.inr (List.map Prod.fst ([((nidl + 1),some (flat bE m))]:List (Nat × Option (List AV)))) ++ [.inl d]) md'] (kk:RW Tryz.prog N all Q md' rest ⟨(d,.own (nidl + 1) 0 m.length 4) :: tsl,hO hsl [((nidl + 1),some (flat bE m))],nidl + 2,z0⟩):RW Tryz.prog N all Q md (⟨some d,.call ⟨.value (.func 241),#[x0],tys⟩,ty,pos,af,none⟩ :: rest) ⟨tsl,hsl,nidl,z0⟩:=by
 exact aZ (l := [x0]) [] 2 [((nidl + 1),some (flat bE m))] hmc (avs := [sl bE m]) (by simp only [evL,ha0]) rfl hM hN (md' := md') (hmd := hmd) kk
theorem oS {m:List Cl}{j:Nat}{x0:Operand}(ha0:ev (lk tsl) x0 = some (sl bE m)) (hmc:MC Tryz.prog 241 [sl bE m] [] 0 (fun _:Unit => True) (fun _ => .own 1 0 m.length 4) (fun _ => [(1,some (flat dZ (cS m j (.own 2 0 m[j]!.stk.length 2)))),(2,some (flat b6 m[j]!.stk))])) (hM:Nat.ble (nidl + 3) aV = true) (hN:Nat.blt d N = true){md':Md}[hmd:MdA md (fU [x0] ++ []) (List.map Sum.inr (List.map Prod.fst ([((nidl + 1),some (flat dZ (cS m j (.own (nidl + 2) 0 m[j]!.stk.length 2)))),((nidl + 2),some (flat b6 m[j]!.stk))]:List (Nat × Option (List AV)))) ++ [.inl d]) md'] (kk:RW Tryz.prog N all Q md' rest ⟨(d,.own (nidl + 1) 0 m.length 4) :: tsl,hO hsl [((nidl + 1),some (flat dZ (cS m j (.own (nidl + 2) 0 m[j]!.stk.length 2)))),((nidl + 2),some (flat b6 m[j]!.stk))],nidl + 3,z0⟩):RW Tryz.prog N all Q md (⟨some d,.call ⟨.value (.func 241),#[x0],tys⟩,ty,pos,af,none⟩ :: rest) ⟨tsl,hsl,nidl,z0⟩:=by
 exact aZ (l := [x0]) [] 3 [((nidl + 1),some (flat dZ (cS m j (.own (nidl + 2) 0 m[j]!.stk.length 2)))),((nidl + 2),some (flat b6 m[j]!.stk))] hmc (avs := [sl bE m]) (by simp only [evL,ha0]) rfl hM hN (md' := md') (hmd := hmd) kk
theorem l6 {α:Type}[Inhabited α] (l:List α) (k:Nat):l.set k l[k]! = l:=by
 rcases Nat.lt_or_ge k l.length with h|h
 ·rw [aS _ _ h]; simp
 ·exact List.set_eq_of_length_le h
theorem DJ {m:List Cl}{i:Nat}(hi:i < m.length):gM (flat bE m) (0 + i * 4 + 3) [sl b6 m[i]!.stk] = flat bE m:=by
 have h := B6 (xs := m) (k := i) (s := m[i]!.stk) hi
 rw [show m.set i { m[i]! with stk := m[i]!.stk } = m from l6 m i] at h
 exact h
theorem Cu {m:List Cl}{i j:Nat}{X:AV}(hi:i < m.length) (h:i ≠ j):(cS m j X)[i]! = qS m[i]!:=by
 unfold cS
 rw [aS _ _ (by rw [List.length_set,List.length_map]; exact hi),List.getElem_set_ne (fun e => h e.symm),List.getElem_map,aS _ _ hi]
theorem Ki {m:List Cl}{i j:Nat}{X:AV}(h:i < m.length ∧ i ≠ j):gM (flat dZ (cS m j X)) (0 + i * 4 + 3) [sl b6 m[i]!.stk] = flat dZ (cS m j X):=by
 have hl := cP (m := m) (j := j) (X := X)
 have e : (cS m j X).set i { (cS m j X)[i]! with av := sl b6 m[i]!.stk } = cS m j X := by
  rw [Cu h.1 h.2]
  have : ({ qS m[i]! with av := sl b6 m[i]!.stk } : Co) = (cS m j X)[i]! := by rw [Cu h.1 h.2]; rfl
  rw [this]; exact l6 _ _
 rw [← e]
 have := fI (f := dZ) (xs := cS m j X) (k := i) (j := 3) (new := [sl b6 m[i]!.stk]) (y := { (cS m j X)[i]! with av := sl b6 m[i]!.stk }) (by rw [hl]; exact h.1) (by simp) rfl
 rw [e] at this ⊢
 exact this
theorem n8 {mp:List (Nat × Nat)}{lo:Lo}:∀ {cs:List AV},bH cs = true → All2 (Fq mp lo) cs cs
 | [],_ => .nil
 | c :: cs, h => by
  simp only [bH,Bool.and_eq_true] at h
  exact .cons (.inl ⟨rfl,h.1⟩) (n8 h.2)
theorem tP {α β:Type}{R:α → β → Prop}:∀ {a:List α}{b:List β}{c:List α}{d:List β},All2 R a b → All2 R c d → All2 R (a ++ c) (b ++ d)
 | _,_,_,_,.nil,h => h
 | _,_,_,_,.cons h1 h2,h => .cons h1 (tP h2 h)
theorem Dt {mp:List (Nat × Nat)}{lo:Lo}{m:List Cl}{j k i i':Nat}(h:j < m.length) (hr:MZ mp lo (.own i 0 k 2) = some (.own i' 0 k 2)):All2 (Fq mp lo) (flat dZ (cS m j (.own i 0 k 2))) (flat dZ (cS m j (.own i' 0 k 2))):=by
 rw [iS h,iS h]
 exact tP (n8 (inferInstance : Pur (flat bE _)).pf) (tP (n8 (inferInstance : Pur [iv _,bv _,iv _]).pf) (.cons (.inr hr) (n8 (inferInstance : Pur (flat bE _)).pf)))
theorem jY (m:List Cl) (hm:OkM m):MC Tryz.prog 241 [sl bE m] [] 0 (fun _:Unit => True) (fun _ => .own 1 0 m.length 4) (fun _ => [(1,some (flat bE m))]):=by
 have hml := hm.l
 have hcc := Bc m (by omega)
 refine aX Tryz.func241 Tryz.ntmps241 ?_
 repeat' (first|(apply aF;(apply vY;rfl;exact hcc;rfl;rfl))|refine aE ?_|fail)
 refine aH (σ := Nat) [3,8,9] [] (fun k => [(10,iv (k : Int))]) (fun k => [(1,some (flat bE m))]) (fun k => k ≤ m.length) (fun k => m.length - k) (0) (Nat.zero_le _) ?_
 rintro i hi
 by_cases hin : i < m.length
 ·have hst : m[i]!.stk.length ≤ 200 := (((cL m).1 hm).2 i hin).l.2
  have hct := zF m[i]!.stk (by omega)
  repeat' (first|(apply aF;first|(apply p8;rfl;exact hct;rfl;rfl)|(with_reducible apply aW (d := 20)))|refine aE ?_|(refine aJ ?_ ?_ <;> intro hc hq <;> try (exfalso;omega))|fail)
  refine bU (cX ?_ (Le.frzD (d := 19) (i := 4) rfl rfl))
  repeat' (first|(apply aF;(apply bB;rfl;rfl;rfl;rfl;rfl;(rw [aI]; simp only [gB] <;> omega);(exact DJ (by (assumption)))))|refine aE ?_|fail)
  (apply bC (i + 1);focus (refine Le.ren [(1,1)] rfl (by decide) ?_ ?_ <;> repeat' (first|exact trivial|refine And.intro ⟨_,rfl,?_⟩ ?_|refine And.intro ⟨_,_,rfl,rfl,?_⟩ ?_|exact Or.inr rfl|refine Or.inl ⟨?_,(by first|rfl|exact a9 _ _)⟩|rfl)))
  ·omega
  ·omega
 ·repeat' (first | refine aE ?_ | (refine aJ ?_ ?_ <;> intro hc hq <;> try (exfalso; omega))|fail)
  (refine aD rfl ?_; refine aT () trivial ?_ ⟨sE ?_,trivial⟩)
  ·rfl
  ·rfl
theorem sB (m:List Cl) (j:Nat) (hm:OkM m) (hj:j < m.length):MC Tryz.prog 241 [sl bE m] [] 0 (fun _:Unit => True) (fun _ => .own 1 0 m.length 4) (fun _ => [(1,some (flat dZ (cS m j (.own 2 0 m[j]!.stk.length 2)))),(2,some (flat b6 m[j]!.stk))]):=by
 have hml := hm.l
 have hcc := Bc m (by omega)
 refine aX Tryz.func241 Tryz.ntmps241 ?_
 repeat' (first|(apply aF;(apply vY;rfl;exact hcc;rfl;rfl))|refine aE ?_|fail)
 refine AW.le ?_ (Le.bump 1)
 refine aH (σ := Nat × Bool) [3,8,9] [] (fun k => [(10,iv (k.1 : Int))]) (fun k => [(1,some (cond k.2 (flat dZ (cS m j (.own 2 0 m[j]!.stk.length 2))) (flat bE m))),(2,cond k.2 (some (flat b6 m[j]!.stk)) none)]) (fun k => k.1 ≤ m.length ∧ k.2 = decide (j < k.1)) (fun k => m.length - k.1) (0,false) ⟨Nat.zero_le _,by simp⟩ ?_
 rintro ⟨i,b⟩ ⟨hi,hb⟩
 dsimp only at hi hb ⊢
 by_cases hin : i < m.length
 ·have hst : m[i]!.stk.length ≤ 200 := (((cL m).1 hm).2 i hin).l.2
  have hct := zF m[i]!.stk (by omega)
  by_cases hij : j < i
  ·rw [decide_eq_true hij] at hb; subst hb
   simp only [cond_true]
   have hol := cP (m := m) (j := j) (X := .own 2 0 m[j]!.stk.length 2)
   have hon := Cu (m := m) (i := i) (j := j) (X := .own 2 0 m[j]!.stk.length 2) hin (by omega)
   repeat' (first|(apply aF;(with_reducible apply aW (d := 5)))|refine aE ?_|(refine aJ ?_ ?_ <;> intro hc hq <;> try (exfalso;omega))|fail)
   refine bU ?_
   rw [hon]
   dsimp only [qS]
   repeat' (first|(apply aF;first|(apply p8;rfl;exact hct;rfl;rfl)|(with_reducible apply aW (d := 20)))|refine aE ?_|fail)
   refine bU (cX ?_ (Le.frzD (d := 19) (i := 5) rfl rfl))
   repeat' (first|(apply aF;(apply bB;rfl;rfl;rfl;rfl;rfl;(rw [aI]; simp only [gB] <;> omega);(exact Ki (by (omega)))))|refine aE ?_|fail)
   (apply bC (i + 1,true);focus (refine Le.ren [(1,1),(2,2)] rfl (by decide) ?_ ?_ <;> repeat' (first|exact trivial|refine And.intro ⟨_,rfl,?_⟩ ?_|refine And.intro ⟨_,_,rfl,rfl,?_⟩ ?_|exact Or.inr rfl|refine Or.inl ⟨?_,(by first|rfl|exact a9 _ _)⟩|rfl)))
   ·exact Or.inr (Dt hj rfl)
   ·exact ⟨by dsimp only;omega,by dsimp only;rw [decide_eq_true (by omega)]⟩
   ·dsimp only;omega
  ·rw [decide_eq_false hij] at hb; subst hb
   simp only [cond_false]
   repeat' (first|(apply aF;first|(apply p8;rfl;exact hct;rfl;rfl)|(with_reducible apply aW (d := 20)))|refine aE ?_|(refine aJ ?_ ?_ <;> intro hc hq <;> try (exfalso;omega))|fail)
   by_cases hie : i = j
   ·subst hie
    refine bU ?_
    repeat' (first|(apply aF;(apply bB;rfl;rfl;rfl;rfl;rfl;(rw [aI]; simp only [gB] <;> omega);(exact yL (by (assumption)))))|refine aE ?_|fail)
    (apply bC (i + 1,true);focus (refine Le.ren [(1,1),(2,5)] rfl (by decide) ?_ ?_ <;> repeat' (first|exact trivial|refine And.intro ⟨_,rfl,?_⟩ ?_|refine And.intro ⟨_,_,rfl,rfl,?_⟩ ?_|exact Or.inr rfl|refine Or.inl ⟨?_,(by first|rfl|exact a9 _ _)⟩|rfl)))
    ·exact Or.inr (Dt hin rfl)
    ·exact ⟨by dsimp only;omega,by dsimp only;rw [decide_eq_true (by omega)]⟩
    ·dsimp only;omega
   ·refine bU (cX ?_ (Le.frzD (d := 19) (i := 5) rfl rfl))
    repeat' (first|(apply aF;(apply bB;rfl;rfl;rfl;rfl;rfl;(rw [aI]; simp only [gB] <;> omega);(exact DJ (by (assumption)))))|refine aE ?_|fail)
    (apply bC (i + 1,false);focus (refine Le.ren [(1,1)] rfl (by decide) ?_ ?_ <;> repeat' (first|exact trivial|refine And.intro ⟨_,rfl,?_⟩ ?_|refine And.intro ⟨_,_,rfl,rfl,?_⟩ ?_|exact Or.inr rfl|refine Or.inl ⟨?_,(by first|rfl|exact a9 _ _)⟩|rfl)))
    ·exact ⟨by dsimp only;omega,by dsimp only;rw [decide_eq_false (by omega)]⟩
    ·dsimp only;omega
 ·rw [decide_eq_true (by omega)] at hb; subst hb
  simp only [cond_true]
  repeat' (first|refine aE ?_|(refine aJ ?_ ?_ <;> intro hc hq <;> try (exfalso;omega))|fail)
  (refine aD rfl ?_; refine aT () trivial ?_ ⟨sE ?_,⟨sE ?_,trivial⟩⟩)
  ·rfl
  ·rfl
  ·rfl
theorem m5 {m:List Cl}{x:Pt}{wr:Bool}{n:Nat}{x0 x1 x2:Operand}{i0:Nat}(ha0:ev (lk tsl) x0 = some (.own i0 0 n 4)) (ha1:ev (lk tsl) x1 = some (mK x)) (ha2:ev (lk tsl) x2 = some (bv wr)) (hH0:aO hsl i0 = some (flat bE m)) (hmc:MC Tryz.prog 242 [.own 0 0 n 4,mK x,bv wr] [(0,some (flat bE m))] 1 (fun _:Unit => True) (fun _ => iv (a7 m x wr)) (fun _ => [(0,some (flat bE m))])) (hM:Nat.ble (nidl + 0) aV = true) (hN:Nat.blt d N = true){md':Md}[hmd:MdA md (fU [x0,x1,x2] ++ [.inr i0]) (List.map Sum.inr (List.map Prod.fst ([(i0,some (flat bE m))]:List (Nat × Option (List AV)))) ++ [.inl d]) md'] (kk:RW Tryz.prog N all Q md' rest ⟨(d,iv (a7 m x wr)) :: tsl,hO hsl [(i0,some (flat bE m))],nidl + 0,z0⟩):RW Tryz.prog N all Q md (⟨some d,.call ⟨.value (.func 242),#[x0,x1,x2],tys⟩,ty,pos,af,none⟩ :: rest) ⟨tsl,hsl,nidl,z0⟩:=by
 exact aZ (l := [x0,x1,x2]) [i0] 1 [(i0,some (flat bE m))] hmc (avs := [.own i0 0 n 4,mK x,bv wr]) (by simp only [evL,ha0,ha1,ha2]) rfl hM hN (md' := md') (hmd := hmd) kk
theorem vS {m:List Cl}{j:Nat}{t:Int}{k n:Nat}{x0 x1 x2:Operand}{i0 i1:Nat}(ha0:ev (lk tsl) x0 = some (.own i0 0 n 4)) (ha1:ev (lk tsl) x1 = some (.agg [iv (j:Int),iv t])) (ha2:ev (lk tsl) x2 = some (bv true)) (hH0:aO hsl i0 = some (flat dZ (cS m j (.own i1 0 m[j]!.stk.length 2)))) (hH1:aO hsl i1 = some (flat b6 m[j]!.stk)) (hdd:Go.AL.distinct [i0,i1] = true) (hmc:MC Tryz.prog 242 [.own 0 0 n 4,.agg [iv (j:Int),iv t],bv true] [(0,some (flat dZ (cS m j (.own 1 0 m[j]!.stk.length 2)))),(1,some (flat b6 m[j]!.stk))] 2 (fun _:Unit => True) (fun _ => iv 0) (fun _ => [(0,some (flat dZ (cS m j (.own 1 0 (k + 1) 2)))),(1,some (flat b6 (m[j]!.stk.take (k + 1))))])) (hM:Nat.ble (nidl + 0) aV = true) (hN:Nat.blt d N = true){md':Md}[hmd:MdA md (fU [x0,x1,x2] ++ [.inr i0,.inr i1]) (List.map Sum.inr (List.map Prod.fst ([(i0,some (flat dZ (cS m j (.own i1 0 (k + 1) 2)))),(i1,some (flat b6 (m[j]!.stk.take (k + 1))))]:List (Nat × Option (List AV)))) ++ [.inl d]) md'] (kk:RW Tryz.prog N all Q md' rest ⟨(d,iv 0) :: tsl,hO hsl [(i0,some (flat dZ (cS m j (.own i1 0 (k + 1) 2)))),(i1,some (flat b6 (m[j]!.stk.take (k + 1))))],nidl + 0,z0⟩):RW Tryz.prog N all Q md (⟨some d,.call ⟨.value (.func 242),#[x0,x1,x2],tys⟩,ty,pos,af,none⟩ :: rest) ⟨tsl,hsl,nidl,z0⟩:=by
 exact aZ (l := [x0,x1,x2]) [i0,i1] 2 [(i0,some (flat dZ (cS m j (.own i1 0 (k + 1) 2)))),(i1,some (flat b6 (m[j]!.stk.take (k + 1))))] hmc (avs := [.own i0 0 n 4,.agg [iv (j : Int),iv t],bv true]) (by simp only [evL,ha0,ha1,ha2]) hdd hM hN (md' := md') (hmd := hmd) kk
theorem LdL.app {D:List Nat}{H:Nat → Option (List AV)}:∀ {a b c d:List AV},LdL D H a b → LdL D H c d → bH a = true → LdL D H (a ++ c) (a ++ d)
 | [],_,_,_,_,h,_ => h
 | x :: a, b, c, d, h1, h, hp => by
  simp only [bH,Bool.and_eq_true] at hp
  exact .cons (.pur hp.1) (LdL.app (a := a) (b := a) (.pur hp.2) h hp.2)
theorem Ms {D:List Nat}{H:Nat → Option (List AV)}{m:List Cl}{j i k:Nat}{r:List Tg}(hi:i ∈ D) (hH:H i = some (flat b6 r)) (hk:k = r.length) (hj:j < m.length):LdL D H (flat dZ (cS m j (.own i 0 k 2))) (flat bE (m.set j { m[j]! with stk := r })):=by
 subst hk
 rw [← AN,iS hj,iS hj]
 have p1 : bH (flat bE (m.take j)) = true := (inferInstance : Pur (flat bE _)).pf
 have p2 : bH [iv m[j]!.val,bv m[j]!.alive,iv m[j]!.next] = true := rfl
 exact LdL.app (.pur p1) (LdL.app (.pur p2) (.cons (.own hi hH (.pur (inferInstance : Pur (flat b6 r)).pf)) (.pur (inferInstance : Pur (flat bE _)).pf)) p2) p1
theorem CR {D:List Nat}{H:Nat → Option (List AV)}{m:List Cl}{j i:Nat}(hi:i ∈ D) (hH:H i = some (flat b6 m[j]!.stk)) (hj:j < m.length):LdL D H (flat dZ (cS m j (.own i 0 m[j]!.stk.length 2))) (flat bE m):=by
 have h := Ms (m := m) (r := m[j]!.stk) hi hH rfl hj
 rwa [show m.set j { m[j]! with stk := m[j]!.stk } = m from l6 m j] at h
theorem LD {m:List Cl}{x:Pt}{wr:Bool}(h:0 ≤ x.cell) (h2:x.cell < m.length) (h3:m[x.cell.toNat]!.alive = true) (h4:0 ≤ b7 m[x.cell.toNat]!.stk x.tag) (hw:wr = true) (h5:m[x.cell.toNat]!.stk[(b7 m[x.cell.toNat]!.stk x.tag).toNat]!.uq = false):a7 m x wr = 3:=by
 unfold a7;rw [if_neg (by omega),if_neg (by rw [h3]; decide),if_neg (by omega),if_pos ⟨hw,h5⟩]
theorem oA (m:List Cl) (x:Pt) (wr:Bool) (n:Nat) (hm:OkM m) (hn:n = m.length) (hk:a7 m x wr ≠ 0):MC Tryz.prog 242 [.own 0 0 n 4,mK x,bv wr] [(0,some (flat bE m))] 1 (fun _:Unit => True) (fun _ => iv (a7 m x wr)) (fun _ => [(0,some (flat bE m))]):=by
 subst hn
 have hml := hm.l
 have hcv := gR m hm
 have hst : 0 ≤ x.cell → x.cell < m.length → m[x.cell.toNat]!.stk.length ≤ 200 := fun h1 h2 => (((cL m).1 hm).2 x.cell.toNat (by omega)).l.2
 have hbd := dX m[x.cell.toNat]!.stk x.tag
 have hidx := fun h => yQ m[x.cell.toNat]!.stk x.cell x.tag h
 refine aX Tryz.func242 Tryz.ntmps242 ?_
 repeat' (first|(apply aF;first|(apply pD (k := 239);(case ha => rfl);(case hl => (repeat' (first|exact m7|apply kM|exact mP rfl inferInstance)));(case h => exact hcv);(case hfr|hN => rfl);(case hmd => infer_instance))|((apply e8 4);(case hx|hH|hc|hN => rfl))|(apply aA (k := 267);rfl;(exact (hidx (by have := hst (by omega) (by omega);omega)));exact Pur.pf;rfl)|(with_reducible apply aW (d := 75))|(apply aA (k := 54);rfl;(apply c9);(rfl);rfl))|refine aE ?_|(refine aJ ?_ ?_ <;> intro hc hq <;> try (exfalso;omega))|(refine bO ?_ ?_ <;> intro hg hq <;> try (exfalso;omega))|fail)
 ·(refine aD rfl ?_; refine aT () trivial ?_ ⟨sE ?_, trivial⟩)
  ·rw [BZ (by omega)]; rfl
  ·rfl
 ·(refine aD rfl ?_; refine aT () trivial ?_ ⟨sE ?_, trivial⟩)
  ·rw [GH (by omega) (by omega) (by assumption)]; rfl
  ·rfl
 ·(refine aD rfl ?_; refine aT () trivial ?_ ⟨sE ?_, trivial⟩)
  ·rw [Ht (by omega) (by omega) (by assumption) (by assumption)]; rfl
  ·rfl
 ·(refine aD rfl ?_; refine aT () trivial ?_ ⟨sE ?_, trivial⟩)
  ·rw [LD (by omega) (by omega) (by assumption) (by assumption) (by assumption) (by assumption)]; rfl
  ·rfl
 ·exfalso
  have hw : wr = true := by assumption
  have hu : m[x.cell.toNat]!.stk[(b7 m[x.cell.toNat]!.stk x.tag).toNat]!.uq = true := by assumption
  subst hw
  refine hk ?_
  rw [wR,if_pos (qY (by omega) (by omega) (by assumption) (by assumption)),if_neg (by rw [hu]; decide)]
 ·exfalso
  have hw : wr = false := by assumption
  subst hw
  exact hk (qY (by omega) (by omega) (by assumption) (by assumption))
theorem sH (m:List Cl) (j:Nat) (t:Int) (k n:Nat) (hm:OkM m) (hn:n = m.length) (hj:j < m.length) (hk:b7 m[j]!.stk t = (k:Int)) (hal:m[j]!.alive = true) (hu:m[j]!.stk[k]!.uq = true):MC Tryz.prog 242 [.own 0 0 n 4,.agg [iv (j:Int),iv t],bv true] [(0,some (flat dZ (cS m j (.own 1 0 m[j]!.stk.length 2)))),(1,some (flat b6 m[j]!.stk))] 2 (fun _:Unit => True) (fun _ => iv 0) (fun _ => [(0,some (flat dZ (cS m j (.own 1 0 (k + 1) 2)))),(1,some (flat b6 (m[j]!.stk.take (k + 1))))]):=by
 subst hn
 have hml := hm.l
 have hcv := gR m hm
 have hst : m[j]!.stk.length ≤ 200 := (((cL m).1 hm).2 j hj).l.2
 have hbd := dX m[j]!.stk t
 rw [hk] at hbd
 have hidx := yQ m[j]!.stk (j : Int) t (by omega)
 rw [hk] at hidx
 have hog := gJ (m := m) (j := j) (X := .own 1 0 m[j]!.stk.length 2) hj
 have hol := cP (m := m) (j := j) (X := .own 1 0 m[j]!.stk.length 2)
 refine aX Tryz.func242 Tryz.ntmps242 ?_
 repeat' (first|(apply aF;first|(apply lT (k := 239) (D := [0,1]) (h := hcv);rfl;exact .cons (.own (by simp) rfl (CR (by simp) rfl hj)) .nil;rfl;rfl)|(with_reducible apply aW (d := 35))|(apply aA (k := 54);rfl;(apply c9);(rfl);rfl))|refine aE ?_|(refine aJ ?_ ?_ <;> intro hc hq <;> try (exfalso;omega))|fail)
 all_goals (try (exfalso;omega))
 ·exfalso
  have h : (cS m j (.own 1 0 m[j]!.stk.length 2))[j]!.alive = false := by assumption
  rw [hog] at h;simp only [hal] at h;cases h
 refine bU ?_
 rw [hog]
 dsimp only
 repeat' (first|(apply aF;first|((apply e8 4);(case hx|hH|hc|hN => rfl))|(apply lT (k := 267) (D := [1]) (h := hidx);rfl;exact .cons (.own (by simp) rfl (.pur (inferInstance : Pur (flat b6 _)).pf)) (.cons (.pur rfl) .nil);rfl;rfl)|(with_reducible apply aW (d := 68)))|refine aE ?_|fail)
 refine bU ?_
 rw [hog]
 dsimp only
 repeat' (first|(apply aF;(with_reducible apply aW (d := 81)))|refine aE ?_|(refine aJ ?_ ?_ <;> intro hc hq <;> try (exfalso;omega))|fail)
 ·exfalso
  have h : m[j]!.stk[k]!.uq = false := by assumption
  rw [hu] at h;cases h
 refine bU ?_
 rw [hog]
 dsimp only
 repeat' (first|(apply aF;first|(apply gV (d := 83) (l := 0) (h := k + 1);rfl;rfl;rfl;exact p9 rfl (by omega);exact if_pos (by omega);rfl)|(apply bB;rfl;rfl;rfl;rfl;rfl;(rw [aI]; simp only [gB] <;> omega);(exact tU (by (assumption)))))|refine aE ?_|fail)
 refine aR (Le.cut (i := 1) ((k + 1) * 2) rfl) ?_
 (refine aD rfl ?_; refine aT () trivial ?_ ⟨sE ?_,⟨sE ?_,trivial⟩⟩)
 ·rfl
 ·rfl
 ·rw [dK b6 (e := 2)]
theorem D6 {xs:List Tg}{k n:Nat}{x0:Operand}{i0:Nat}(ha0:ev (lk tsl) x0 = some (.own i0 (0 + k * 2) n 2)) (hH0:aO hsl i0 = some (flat b6 xs)) (hmc:MC Tryz.prog 266 [.own 0 (0 + k * 2) n 2] [(0,some (flat b6 xs))] 1 (fun _:Unit => True) (fun _ => .own 2 0 n 2) (fun _ => [(0,some (flat b6 xs)),(2,some (flat b6 (xs.drop k)))])) (hM:Nat.ble (nidl + 2) aV = true) (hN:Nat.blt d N = true){md':Md}[hmd:MdA md (fU [x0] ++ [.inr i0]) (List.map Sum.inr (List.map Prod.fst ([(i0,some (flat b6 xs)),((nidl + 1),some (flat b6 (xs.drop k)))]:List (Nat × Option (List AV)))) ++ [.inl d]) md'] (kk:RW Tryz.prog N all Q md' rest ⟨(d,.own (nidl + 1) 0 n 2) :: tsl,hO hsl [(i0,some (flat b6 xs)),((nidl + 1),some (flat b6 (xs.drop k)))],nidl + 2,z0⟩):RW Tryz.prog N all Q md (⟨some d,.call ⟨.value (.func 266),#[x0],tys⟩,ty,pos,af,none⟩ :: rest) ⟨tsl,hsl,nidl,z0⟩:=by
 exact aZ (l := [x0]) [i0] 3 [(i0,some (flat b6 xs)),((nidl + 1),some (flat b6 (xs.drop k)))] hmc (avs := [.own i0 (0 + k * 2) n 2]) (by simp only [evL,ha0]) rfl hM hN (md' := md') (hmd := hmd) kk
theorem Iv (xs:List Tg) (k n:Nat) (hn:n = xs.length - k) (hl:xs.length ≤ 1048576):MC Tryz.prog 266 [.own 0 (0 + k * 2) n 2] [(0,some (flat b6 xs))] 1 (fun _:Unit => True) (fun _ => .own 2 0 n 2) (fun _ => [(0,some (flat b6 xs)),(2,some (flat b6 (xs.drop k)))]):=by
 subst hn
 refine aX Tryz.func266 Tryz.ntmps266 ?_
 repeat' (first|(apply aF;first|(apply FD;rfl;rfl;(intro b hb))|(apply bS;rfl;rfl;rfl;rfl;rfl;(decide);exact Df rfl rfl;omega;omega;(exact pF rfl);rfl;rfl))|refine aE ?_|(refine aJ ?_ ?_ <;> intro hc hq <;> try (exfalso;omega))|fail)
 ·have h0 : xs.length - k = 0 := hb (by assumption)
  have h1 : xs.drop k = [] := List.drop_eq_nil_of_le (by omega)
  refine aR (Le.bump 1) ?_
  refine aR (Le.nilOwn (d := 2) 2 rfl (by decide)) ?_
  (refine aD rfl ?_; refine aT () trivial ?_ ⟨sE ?_,⟨sE ?_,trivial⟩⟩)
  ·show AV.own 2 0 0 2 = _; rw [h0]
  ·rfl
  ·rw [h1]; rfl
 ·(refine aD rfl ?_; refine aT () trivial ?_ ⟨sE ?_, ⟨sE ?_, trivial⟩⟩)
  ·show AV.own 2 0 (0 + (xs.length - k)) 2 = _
   rw [Nat.zero_add]
  ·rfl
  ·rfl
theorem wH {m:List Cl}{j:Nat}{t:Int}{r:List Tg}{n:Nat}{x0 x1 x2:Operand}{i0 i1:Nat}(ha0:ev (lk tsl) x0 = some (.own i0 0 n 4)) (ha1:ev (lk tsl) x1 = some (.agg [iv (j:Int),iv t])) (ha2:ev (lk tsl) x2 = some (bv false)) (hH0:aO hsl i0 = some (flat dZ (cS m j (.own i1 0 m[j]!.stk.length 2)))) (hH1:aO hsl i1 = some (flat b6 m[j]!.stk)) (hdd:Go.AL.distinct [i0,i1] = true) (hmc:MC Tryz.prog 242 [.own 0 0 n 4,.agg [iv (j:Int),iv t],bv false] [(0,some (flat dZ (cS m j (.own 1 0 m[j]!.stk.length 2)))),(1,some (flat b6 m[j]!.stk))] 2 (fun _:Unit => True) (fun _ => iv 0) (fun _ => [(0,some (flat dZ (cS m j (.own 5 0 r.length 2)))),(5,some (flat b6 r))])) (hM:Nat.ble (nidl + 4) aV = true) (hN:Nat.blt d N = true){md':Md}[hmd:MdA md (fU [x0,x1,x2] ++ [.inr i0,.inr i1]) (List.map Sum.inr (List.map Prod.fst ([(i0,some (flat dZ (cS m j (.own (nidl + 3) 0 r.length 2)))),((nidl + 3),some (flat b6 r)),(i1,none)]:List (Nat × Option (List AV)))) ++ [.inl d]) md'] (kk:RW Tryz.prog N all Q md' rest ⟨(d,iv 0) :: tsl,hO hsl [(i0,some (flat dZ (cS m j (.own (nidl + 3) 0 r.length 2)))),((nidl + 3),some (flat b6 r)),(i1,none)],nidl + 4,z0⟩):RW Tryz.prog N all Q md (⟨some d,.call ⟨.value (.func 242),#[x0,x1,x2],tys⟩,ty,pos,af,none⟩ :: rest) ⟨tsl,hsl,nidl,z0⟩:=by
 exact aZ (l := [x0,x1,x2]) [i0,i1] 6 [(i0,some (flat dZ (cS m j (.own (nidl + 3) 0 r.length 2)))),((nidl + 3),some (flat b6 r)),(i1,none)] hmc (avs := [.own i0 0 n 4,.agg [iv (j : Int),iv t],bv false]) (by simp only [evL,ha0,ha1,ha2]) hdd hM hN (md' := md') (hmd := hmd) kk
theorem Bj (m:List Cl) (j:Nat) (t:Int) (r:List Tg) (k n:Nat) (hm:OkM m) (hn:n = m.length) (hj:j < m.length) (hk:b7 m[j]!.stk t = (k:Int)) (hal:m[j]!.alive = true) (hr:r = fZ m[j]!.stk k false):MC Tryz.prog 242 [.own 0 0 n 4,.agg [iv (j:Int),iv t],bv false] [(0,some (flat dZ (cS m j (.own 1 0 m[j]!.stk.length 2)))),(1,some (flat b6 m[j]!.stk))] 2 (fun _:Unit => True) (fun _ => iv 0) (fun _ => [(0,some (flat dZ (cS m j (.own 5 0 r.length 2)))),(5,some (flat b6 r))]):=by
 subst hn
 have hml := hm.l
 have hcv := gR m hm
 have hst : m[j]!.stk.length ≤ 200 := (((cL m).1 hm).2 j hj).l.2
 have hbd := dX m[j]!.stk t
 rw [hk] at hbd
 have hidx := yQ m[j]!.stk (j : Int) t (by omega)
 rw [hk] at hidx
 have hog := gJ (m := m) (j := j) (X := .own 1 0 m[j]!.stk.length 2) hj
 have hol := cP (m := m) (j := j) (X := .own 1 0 m[j]!.stk.length 2)
 refine aX Tryz.func242 Tryz.ntmps242 ?_
 repeat' (first|(apply aF;first|(apply lT (k := 239) (D := [0,1]) (h := hcv);rfl;exact .cons (.own (by simp) rfl (CR (by simp) rfl hj)) .nil;rfl;rfl)|(with_reducible apply aW (d := 35))|(apply aA (k := 54);rfl;(apply c9);(rfl);rfl))|refine aE ?_|(refine aJ ?_ ?_ <;> intro hc hq <;> try (exfalso;omega))|fail)
 all_goals (try (exfalso;omega))
 ·exfalso
  have h : (cS m j (.own 1 0 m[j]!.stk.length 2))[j]!.alive = false := by assumption
  rw [hog] at h;simp only [hal] at h;cases h
 refine bU ?_
 rw [hog]
 dsimp only
 repeat' (first|(apply aF;first|((apply e8 4);(case hx|hH|hc|hN => rfl))|(apply lT (k := 267) (D := [1]) (h := hidx);rfl;exact .cons (.own (by simp) rfl (.pur (inferInstance : Pur (flat b6 _)).pf)) (.cons (.pur rfl) .nil);rfl;rfl)|(with_reducible apply aW (d := 41)))|refine aE ?_|fail)
 refine bU ?_
 rw [hog]
 dsimp only
 repeat' (first|(apply aF;first|(apply gV (d := 43) (l := k + 1) (h := m[j]!.stk.length);rfl;rfl;exact p9 rfl (by omega);rfl;exact if_pos (by omega);rfl)|(apply D6;rfl;rfl;exact Iv _ _ _ rfl (by omega);rfl;rfl)|(apply Kc;rfl;rfl;rfl;exact M6 _ _ (by rw [List.length_drop]) (by omega);rfl;rfl)|(with_reducible apply aW (d := 51)))|refine aE ?_|fail)
 refine bU ?_
 rw [hog]
 dsimp only
 have hfl : (flat b6 m[j]!.stk).length = m[j]!.stk.length * 2 := aI b6 _
 have hsl : (shr (List.drop (k + 1) m[j]!.stk)).length ≤ 200 := Nat.le_trans (List.length_filter_le _ _) (by rw [List.length_drop]; omega)
 repeat' (first|(apply aF;first|(apply gV (d := 53) (l := 0) (h := k + 1);rfl;rfl;rfl;exact p9 rfl (by omega);exact if_pos (by omega);rfl)|(apply bS;rfl;rfl;rfl;rfl;rfl;(rw [hfl]; omega);exact Df (k := 0) rfl rfl;omega;omega;rfl;rfl;rfl)|(apply bB;rfl;rfl;rfl;rfl;rfl;(rw [aI]; simp only [gB] <;> omega);(exact tU (by (assumption)))))|refine aE ?_|fail)
 have hre : r = m[j]!.stk.take (k + 1) ++ shr (m[j]!.stk.drop (k + 1)) := by rw [hr]; rfl
 have hrl : r.length = k + 1 + (shr (List.drop (k + 1) m[j]!.stk)).length := by rw [hre,List.length_append,List.length_take]; omega
 (refine aD rfl ?_; refine aT () trivial ?_ ⟨sE ?_,⟨sE ?_,trivial⟩⟩)
 ·rfl
 ·refine congrArg some ?_
  show flat dZ (cS m j (AV.own 5 0 (k + 1 - 0 + (shr (List.drop (k + 1) m[j]!.stk)).length) 2)) = _
  rw [hrl]; rfl
 ·refine congrArg some ?_
  show (List.drop 0 (flat b6 m[j]!.stk)).take ((k + 1) * 2) ++ flat b6 (List.drop 0 (shr (List.drop (k + 1) m[j]!.stk))) = _
  rw [List.drop_zero,List.drop_zero,dK b6 (e := 2),cH,← hre]
theorem Jc {m:List Cl}{j:Nat}{X:AV}{v:Int}(h:j < m.length):gM (flat dZ (cS m j X)) (0 + j * 4 + 0) [iv v] = flat dZ (cS (m.set j { m[j]! with val := v }) j X):=by
 have e : cS (m.set j { m[j]! with val := v }) j X = (cS m j X).set j ⟨v, m[j]!.alive, m[j]!.next, X⟩ := by
  have e2 : (m.set j { m[j]! with val := v })[j]! = { m[j]! with val := v } := by rw [aS _ _ (by rw [List.length_set]; exact h),List.getElem_set_self]
  unfold cS
  rw [e2,List.map_set,List.set_set,List.set_set]; rfl
 rw [e]
 exact fI (by rw [cP]; exact h) (by simp) (by rw [gJ h]; rfl)
theorem Jt {m:List Cl}{j:Nat}{X:AV}{b:Bool}(h:j < m.length):gM (flat dZ (cS m j X)) (0 + j * 4 + 1) [.v (.bool b)] = flat dZ (cS (m.set j { m[j]! with alive := b }) j X):=by
 have e : cS (m.set j { m[j]! with alive := b }) j X = (cS m j X).set j ⟨m[j]!.val, b, m[j]!.next, X⟩ := by
  have e2 : (m.set j { m[j]! with alive := b })[j]! = { m[j]! with alive := b } := by rw [aS _ _ (by rw [List.length_set]; exact h),List.getElem_set_self]
  unfold cS
  rw [e2,List.map_set,List.set_set,List.set_set]; rfl
 rw [e]
 exact fI (by rw [cP]; exact h) (by simp) (by rw [gJ h]; rfl)
theorem qM (m:List Cl) (hm:OkM m) (x:Pt):PC Tryz.prog 202 [sl bE m,mK x] (fun r => r = .tup [sl bE (dI m x false),iv (oV m x),iv (a7 m x false)]):=by
 have hml := hm.l
 by_cases hk : a7 m x false = 0
 ·obtain ⟨c, t⟩ := x
  obtain ⟨h1,h2,h3,h4,_⟩ := dB hk
  obtain ⟨j,rfl⟩ := Int.eq_ofNat_of_zero_le (show 0 ≤ c from h1)
  have hj : j < m.length := by have : (j : Int) < m.length := h2;omega
  obtain ⟨k,hkk⟩ := Int.eq_ofNat_of_zero_le (show 0 ≤ b7 m[j]!.stk t from h4)
  obtain ⟨r,hr⟩ : ∃ r,r = fZ m[j]!.stk k false := ⟨_,rfl⟩
  have hto := Bj m j t r k m.length hm rfl hj hkk h3 hr
  have hog := gJ (m := m) (j := j) (X := .own (0 + 1 + 3 + 3) 0 r.length 2) hj
  have hol := cP (m := m) (j := j) (X := .own (0 + 1 + 3 + 3) 0 r.length 2)
  refine aB Tryz.func202 Tryz.ntmps202 ?_
  repeat' (first|(apply aF;first|(apply oS (j := j);rfl;exact sB m j hm hj;rfl;rfl)|(apply wH (m := m) (j := j) (t := t) (r := r) (n := m.length);rfl;rfl;rfl;rfl;rfl;rfl;exact hto;rfl;rfl))|refine aE ?_|refine bI ?_|fail)
  refine aR (Le.cls (o := 2) (q := 7) (j := j) (k := r.length) (m := m) (r := r) rfl rfl rfl hj (by decide)) ?_
  refine aR (Le.frzD (d := 4) (i := 2) rfl rfl) ?_
  rw [hog]
  refine aD (l := [.imm m.length (flat bE (m.set j { m[j]! with stk := r })),iv m[j]!.val,iv 0]) rfl ?_
  have eM : dI m ⟨j, t⟩ false = m.set j { m[j]! with stk := r } := by
   unfold dI sO;rw [if_pos hk]; dsimp only
   rw [Int.toNat_natCast,hkk,Int.toNat_natCast,hr]
  have eN : oV m ⟨j,t⟩ = m[j]!.val := by unfold oV;rw [if_pos hk]; rfl
  rw [eM,eN,hk,dV (by rw [List.length_set])]
  exact ⟨rfl,by exact Pur.pf⟩
 ·refine aB Tryz.func202 Tryz.ntmps202 ?_
  repeat' (first|(apply aF;first|(apply gS;rfl;exact jY m hm;rfl;rfl)|(apply m5 (m := m) (x := x) (wr := false) (n := m.length);rfl;rfl;rfl;rfl;exact oA m x false _ hm rfl hk;rfl;rfl))|refine aE ?_|(refine aJ ?_ ?_ <;> intro hc hq <;> try (exfalso;omega))|fail)
  (refine aR (Le.frzD (d := 4) (i := 2) rfl rfl) ?_; refine aD rfl ?_)
  refine ⟨?_,by exact Pur.pf⟩
  simp only [aM]
  unfold dI oV;rw [if_neg hk,if_neg hk]
theorem Br (m:List Cl) (hm:OkM m) (x:Pt):PC Tryz.prog 243 [sl bE m,mK x] (fun r => r = .tup [sl bE (k9 m x),iv (a7 m x true)]):=by
 have hml := hm.l
 by_cases hk : a7 m x true = 0
 ·obtain ⟨c, t⟩ := x
  obtain ⟨h1,h2,h3,h4,hu⟩ := dB hk
  obtain ⟨j,rfl⟩ := Int.eq_ofNat_of_zero_le (show 0 ≤ c from h1)
  have hj : j < m.length := by have : (j : Int) < m.length := h2;omega
  obtain ⟨k,hkk⟩ := Int.eq_ofNat_of_zero_le (show 0 ≤ b7 m[j]!.stk t from h4)
  have huk : m[j]!.stk[k]!.uq = true := by
   have h : m[j]!.stk[(b7 m[j]!.stk t).toNat]!.uq = true := hu rfl
   rwa [hkk,Int.toNat_natCast] at h
  have htw := sH m j t k m.length hm rfl hj hkk h3 huk
  have hrl : (m[j]!.stk.take (k + 1)).length = k + 1 := by
   have hb := dX m[j]!.stk t
   rw [List.length_take]; omega
  have hol := cP (m := m) (j := j) (X := .own (0 + 1 + 2) 0 (k + 1) 2)
  have hls : (m.set j { m[j]! with alive := false }).length = m.length := List.length_set
  refine aB Tryz.func243 Tryz.ntmps243 ?_
  repeat' (first|(apply aF;first|(apply oS (j := j);rfl;exact sB m j hm hj;rfl;rfl)|(apply vS (m := m) (j := j) (t := t) (k := k) (n := m.length);rfl;rfl;rfl;rfl;rfl;rfl;exact htw;rfl;rfl)|(apply bB;rfl;rfl;rfl;rfl;rfl;(rw [aI]; simp only [List.length_append,List.length_cons,List.length_nil]; omega);exact Jt hj))|refine aE ?_|fail)
  refine aR (Le.cls (o := 2) (q := 3) (j := j) (k := k + 1) (m := m.set j { m[j]! with alive := false }) (r := m[j]!.stk.take (k + 1)) rfl rfl hrl.symm (by rw [hls]; exact hj) (by decide)) ?_
  refine aR (Le.frzD (d := 4) (i := 2) rfl rfl) ?_
  rw [kV hj,set_set]
  refine aD (l := [.imm m.length (flat bE (m.set j { m[j]! with alive := false,stk := m[j]!.stk.take (k + 1) })),iv 0]) rfl ?_
  have eM : k9 m ⟨j, t⟩ = m.set j { m[j]! with alive := false, stk := m[j]!.stk.take (k + 1) } := by
   unfold k9 sO;rw [if_pos hk]; dsimp only
   rw [Int.toNat_natCast,hkk,Int.toNat_natCast]; unfold fZ;rw [if_pos rfl]
  rw [eM,hk,dV (by rw [List.length_set])]
  exact ⟨rfl,by exact Pur.pf⟩
 ·refine aB Tryz.func243 Tryz.ntmps243 ?_
  repeat' (first|(apply aF;first|(apply gS;rfl;exact jY m hm;rfl;rfl)|(apply m5 (m := m) (x := x) (wr := true) (n := m.length);rfl;rfl;rfl;rfl;exact oA m x true _ hm rfl hk;rfl;rfl))|refine aE ?_|(refine aJ ?_ ?_ <;> intro hc hq <;> try (exfalso;omega))|fail)
  (refine aR (Le.frzD (d := 4) (i := 2) rfl rfl) ?_; refine aD rfl ?_)
  refine ⟨?_,by exact Pur.pf⟩
  simp only [aM]
  unfold k9;rw [if_neg hk]
theorem yG (m:List Cl) (hm:OkM m) (x:Pt) (v:Int):PC Tryz.prog 203 [sl bE m,mK x,iv v] (fun r => r = .tup [sl bE (zY m x v),iv (vH m x v)]):=by
 have hml := hm.l
 by_cases hv : 0 ≤ v ∧ v ≤ 9
 case neg =>
  have hwk : vH m x v = 4 := by unfold vH;rw [if_neg hv]
  have e : zY m x v = m := by unfold zY;rw [if_neg (by rw [hwk]; decide)]
  refine aB Tryz.func203 Tryz.ntmps203 ?_
  repeat' (first|(apply aF;first|(apply gS;rfl;exact jY m hm;rfl;rfl)|(apply aA (k := 54);rfl;(apply c9);(rfl);rfl))|refine aE ?_|(refine aJ ?_ ?_ <;> intro hc hq <;> try (exfalso;omega))|fail)
  all_goals (try (exfalso;omega))
  all_goals (
   (refine aR (Le.frzD (d := 6) (i := 2) rfl rfl) ?_; refine aD rfl ?_)
   refine ⟨?_,by exact Pur.pf⟩
   simp only [aM]
   rw [e,hwk])
 case pos =>
 have hwk : vH m x v = a7 m x true := by unfold vH;rw [if_pos hv]
 by_cases hk : a7 m x true = 0
 ·obtain ⟨c, t⟩ := x
  obtain ⟨h1,h2,h3,h4,hu⟩ := dB hk
  obtain ⟨j,rfl⟩ := Int.eq_ofNat_of_zero_le (show 0 ≤ c from h1)
  have hj : j < m.length := by have : (j : Int) < m.length := h2;omega
  obtain ⟨k,hkk⟩ := Int.eq_ofNat_of_zero_le (show 0 ≤ b7 m[j]!.stk t from h4)
  have huk : m[j]!.stk[k]!.uq = true := by
   have h : m[j]!.stk[(b7 m[j]!.stk t).toNat]!.uq = true := hu rfl
   rwa [hkk,Int.toNat_natCast] at h
  have htw := sH m j t k m.length hm rfl hj hkk h3 huk
  have hrl : (m[j]!.stk.take (k + 1)).length = k + 1 := by
   have hb := dX m[j]!.stk t
   rw [List.length_take]; omega
  have hol := cP (m := m) (j := j) (X := .own (0 + 1 + 2) 0 (k + 1) 2)
  have hls : (m.set j { m[j]! with val := v }).length = m.length := List.length_set
  refine aB Tryz.func203 Tryz.ntmps203 ?_
  repeat' (first|(apply aF;first|(apply oS (j := j);rfl;exact sB m j hm hj;rfl;rfl)|(apply vS (m := m) (j := j) (t := t) (k := k) (n := m.length);rfl;rfl;rfl;rfl;rfl;rfl;exact htw;rfl;rfl)|(apply bB;rfl;rfl;rfl;rfl;rfl;(rw [aI]; simp only [List.length_append,List.length_cons,List.length_nil]; omega);exact Jc hj)|(apply aA (k := 54);rfl;(apply c9);(rfl);rfl))|refine aE ?_|(refine aJ ?_ ?_ <;> intro hc hq <;> try (exfalso;omega))|fail)
  refine aR (Le.cls (o := 2) (q := 3) (j := j) (k := k + 1) (m := m.set j { m[j]! with val := v }) (r := m[j]!.stk.take (k + 1)) rfl rfl hrl.symm (by rw [hls]; exact hj) (by decide)) ?_
  refine aR (Le.frzD (d := 6) (i := 2) rfl rfl) ?_
  rw [kV hj,set_set]
  refine aD (l := [.imm m.length (flat bE (m.set j { m[j]! with val := v,stk := m[j]!.stk.take (k + 1) })),iv 0]) rfl ?_
  have eM : zY m ⟨j, t⟩ v = m.set j { m[j]! with val := v, stk := m[j]!.stk.take (k + 1) } := by
   unfold zY sO;rw [hwk,if_pos hk]; dsimp only
   rw [Int.toNat_natCast,hkk,Int.toNat_natCast]; unfold fZ;rw [if_pos rfl]
  rw [eM,hwk,hk,dV (by rw [List.length_set])]
  exact ⟨rfl,by exact Pur.pf⟩
 ·refine aB Tryz.func203 Tryz.ntmps203 ?_
  repeat' (first|(apply aF;first|(apply gS;rfl;exact jY m hm;rfl;rfl)|(apply m5 (m := m) (x := x) (wr := true) (n := m.length);rfl;rfl;rfl;rfl;exact oA m x true _ hm rfl hk;rfl;rfl)|(apply aA (k := 54);rfl;(apply c9);(rfl);rfl))|refine aE ?_|(refine aJ ?_ ?_ <;> intro hc hq <;> try (exfalso;omega))|fail)
  (refine aR (Le.frzD (d := 6) (i := 2) rfl rfl) ?_; refine aD rfl ?_)
  refine ⟨?_,by exact Pur.pf⟩
  simp only [aM]
  unfold zY;rw [hwk,if_neg hk]
theorem CO (m:List Cl) (hm:OkM m) (v:Int):PC Tryz.prog 240 [sl bE m,iv v] (fun r => r = .tup [sl bE (m ++ [uN v]),.agg [iv m.length,iv 0]]):=by
 have hml := hm.l
 refine aB Tryz.func240 Tryz.ntmps240 ?_
 repeat' (first|(apply aF;first|(apply gS;rfl;exact jY m hm;rfl;rfl)|(apply aL (t := _);rfl;rfl;rfl;(first|exact (rfl:_=some [_,_])|exact (rfl:_=some [_,_,_,_]));rfl;rfl))|refine aE ?_|fail)
 have e2 : AV.imm (m.length + 1) (((flat bE m).drop 0).take (m.length * 4) ++ [iv v, bv true, iv 1, .imm 1 [iv 0, bv true]]) = sl bE (m ++ [uN v]) := by
  have e : ((flat bE m).drop 0).take (m.length * 4) ++ [iv v,bv true,iv 1,.imm 1 [iv 0,bv true]] = flat bE (m ++ [uN v]) := fK rfl rfl
  rw [e]; exact dV (by rw [List.length_append]; rfl)
 refine aR (Le.frzD (d := 4) (i := 5) rfl rfl) ?_
 refine aD (l := [AV.imm (m.length + 1) (((flat bE m).drop 0).take (m.length * 4) ++ [iv v,bv true,iv 1,.imm 1 [iv 0,bv true]]),.agg [iv m.length,iv 0]]) rfl ?_
 rw [e2]
 exact ⟨rfl,by exact Pur.pf⟩
theorem Cq (m:List Cl) (hm:OkM m) (v:Int):PC Tryz.prog 198 [sl bE m,iv v] (fun r => r = .tup (if 0 ≤ v ∧ v ≤ 9 ∧ m.length < 200 then [sl bE (m ++ [uN v]),.agg [iv m.length,iv 0],bv true] else [sl bE [],.agg [iv 0,iv 0],bv false])):=by
 have hml := hm.l
 have hcv := gR m hm
 have hnc := CO m hm v
 refine aB Tryz.func198 Tryz.ntmps198 ?_
 repeat' (first|(apply aF;first|(apply aA (k := 239);rfl;exact hcv;exact Pur.pf;rfl)|(apply aA (k := 240);rfl;exact hnc;exact Pur.pf;rfl)|(apply aA (k := 54);rfl;(apply c9);(rfl);rfl))|refine aE ?_|(refine aJ ?_ ?_ <;> intro hc hq <;> try (exfalso;omega))|(refine bO ?_ ?_ <;> intro hg hq <;> try (exfalso;omega))|refine bI ?_|fail)
 ·refine aR (Le.nilImm (d := 4) rfl) ?_
  exact aD (l := [sl bE [],.agg [iv 0,iv 0],bv false]) rfl ⟨by rw [if_neg (by omega)]; rfl,rfl⟩
 ·exact aD (l := [sl bE (m ++ [uN v]),.agg [iv m.length,iv 0],bv true]) rfl ⟨by rw [if_pos (by omega)]; rfl,by exact Pur.pf⟩
 ·refine aR (Le.nilImm (d := 4) rfl) ?_
  exact aD (l := [sl bE [],.agg [iv 0,iv 0],bv false]) rfl ⟨by rw [if_neg (by omega)]; rfl,rfl⟩
theorem D0 {m:List Cl}{j:Nat}{t:Int}{r:List Tg}{n:Nat}{x0 x1 x2:Operand}{i0 i1:Nat}(ha0:ev (lk tsl) x0 = some (.own i0 0 n 4)) (ha1:ev (lk tsl) x1 = some (.agg [iv (j:Int),iv t])) (ha2:ev (lk tsl) x2 = some (bv true)) (hH0:aO hsl i0 = some (flat dZ (cS m j (.own i1 0 m[j]!.stk.length 2)))) (hH1:aO hsl i1 = some (flat b6 m[j]!.stk)) (hdd:Go.AL.distinct [i0,i1] = true) (hmc:MC Tryz.prog 242 [.own 0 0 n 4,.agg [iv (j:Int),iv t],bv true] [(0,some (flat dZ (cS m j (.own 1 0 m[j]!.stk.length 2)))),(1,some (flat b6 m[j]!.stk))] 2 (fun _:Unit => True) (fun _ => iv 0) (fun _ => [(0,some (flat dZ (cS m j (.own 1 0 r.length 2)))),(1,some (flat b6 r))])) (hM:Nat.ble (nidl + 0) aV = true) (hN:Nat.blt d N = true){md':Md}[hmd:MdA md (fU [x0,x1,x2] ++ [.inr i0,.inr i1]) (List.map Sum.inr (List.map Prod.fst ([(i0,some (flat dZ (cS m j (.own i1 0 r.length 2)))),(i1,some (flat b6 r))]:List (Nat × Option (List AV)))) ++ [.inl d]) md'] (kk:RW Tryz.prog N all Q md' rest ⟨(d,iv 0) :: tsl,hO hsl [(i0,some (flat dZ (cS m j (.own i1 0 r.length 2)))),(i1,some (flat b6 r))],nidl + 0,z0⟩):RW Tryz.prog N all Q md (⟨some d,.call ⟨.value (.func 242),#[x0,x1,x2],tys⟩,ty,pos,af,none⟩ :: rest) ⟨tsl,hsl,nidl,z0⟩:=by
 exact aZ (l := [x0,x1,x2]) [i0,i1] 2 [(i0,some (flat dZ (cS m j (.own i1 0 r.length 2)))),(i1,some (flat b6 r))] hmc (avs := [.own i0 0 n 4,.agg [iv (j : Int),iv t],bv true]) (by simp only [evL,ha0,ha1,ha2]) hdd hM hN (md' := md') (hmd := hmd) kk
theorem F8 (m:List Cl) (j:Nat) (t:Int) (r:List Tg) (k n:Nat) (hm:OkM m) (hn:n = m.length) (hj:j < m.length) (hk:b7 m[j]!.stk t = (k:Int)) (hal:m[j]!.alive = true) (hu:m[j]!.stk[k]!.uq = true) (hre:m[j]!.stk.take (k + 1) = r) (hrk:k + 1 = r.length):MC Tryz.prog 242 [.own 0 0 n 4,.agg [iv (j:Int),iv t],bv true] [(0,some (flat dZ (cS m j (.own 1 0 m[j]!.stk.length 2)))),(1,some (flat b6 m[j]!.stk))] 2 (fun _:Unit => True) (fun _ => iv 0) (fun _ => [(0,some (flat dZ (cS m j (.own 1 0 r.length 2)))),(1,some (flat b6 r))]):=by
 have h := sH m j t k n hm hn hj hk hal hu
 rw [hre,hrk] at h
 exact h
theorem Kf (m:List Cl) (hm:OkM m) (j k:Nat) (t:Int) (r:List Tg) (hj:j < m.length) (hkk:b7 m[j]!.stk t = (k:Int)) (hk:a7 m ⟨(j:Int),t⟩ false = 0) (hr:r = fZ m[j]!.stk k false):PC Tryz.prog 200 [sl bE m,.agg [iv (j:Int),iv t],bv false] (fun z => z = .tup [sl bE (jC m m j false r),mK (jD m j r),iv (jG m j r)]):=by
 have hml := hm.l
 obtain ⟨h1,h2,h3,h4,hu⟩ := dB hk
 have hc := ((cL m).1 hm).2 j hj
 have hb := dX m[j]!.stk t
 have hrl : r.length ≤ 200 := by rw [hr]; exact Nat.le_trans tchS_sub.length_le hc.l.2
 have hnx := hc.n
 obtain ⟨_,e2,_⟩ := vF hk (r := r) (by rw [hr]; show _ = fZ m[j]!.stk (b7 m[j]!.stk t).toNat false;rw [hkk]; rfl)
 have e2' : nG m ⟨(j : Int),t⟩ false = jC m m j false r := e2
 have hok := hm.ln ⟨(j : Int),t⟩ false
 rw [e2'] at hok
 have hto := Bj m j t r k m.length hm rfl hj hkk h3 hr
 have hog := gJ (m := m) (j := j) (X := .own (0 + 1 + 1 + 3 + 3) 0 r.length 2) hj
 have hol := cP (m := m) (j := j) (X := .own (0 + 1 + 1 + 3 + 3) 0 r.length 2)
 have hol2 := cP (m := m) (j := j) (X := .own (0 + 1 + 1 + 3 + 4 + 1) 0 (r.length + 1) 2)
 have hm2 : (m.set j { m[j]! with next := m[j]!.next + 1 }).length = m.length := List.length_set
 refine aB Tryz.func200 Tryz.ntmps200 ?_
 repeat' (first|(apply aF;first|(apply oS (j := j);rfl;exact sB m j hm hj;rfl;rfl)|(apply wH (m := m) (j := j) (t := t) (r := r) (n := m.length);rfl;rfl;rfl;rfl;rfl;rfl;exact hto;rfl;rfl)|(with_reducible apply aW (d := 32)))|refine aE ?_|fail)
 refine bU ?_
 rw [hog]
 dsimp only
 by_cases hf : nW m j r
 ·have eM : jC m m j false r = m := by unfold jC; rw [if_pos hf]
  have eP : jD m j r = ⟨0,0⟩ := by unfold jD;rw [if_pos hf]
  have eK : jG m j r = 4 := by unfold jG;rw [if_pos hf]
  rw [eM,eP,eK]
  unfold nW at hf
  repeat' (first|(apply aF;first|(apply gS;rfl;exact jY m hm;rfl;rfl)|(with_reducible apply aW (d := 44)))|refine aE ?_|(refine aJ ?_ ?_ <;> intro hc hq <;> try (exfalso;omega))|(refine bO ?_ ?_ <;> intro hg hq <;> try (exfalso;omega))|fail)
  ·refine aR (Le.frzD (d := 6) (i := 10) rfl rfl) ?_
   exact aD (l := [sl bE m,.agg [iv 0,iv 0],iv 4]) rfl ⟨rfl,by exact Pur.pf⟩
  ·exfalso
   have h : ¬ (cS m j (.own (0 + 1 + 1 + 3 + 3) 0 r.length 2))[j]!.next = 1000 := by assumption
   rw [hog] at h
   dsimp only at h
   omega
  ·refine aR (Le.frzD (d := 6) (i := 10) rfl rfl) ?_
   exact aD (l := [sl bE m,.agg [iv 0,iv 0],iv 4]) rfl ⟨rfl,by exact Pur.pf⟩
 ·have eM : jC m m j false r = m.set j (psh { m[j]! with stk := r } false) := by unfold jC; rw [if_neg hf]
  have eP : jD m j r = ⟨j,m[j]!.next⟩ := by unfold jD;rw [if_neg hf]
  have eK : jG m j r = 0 := by unfold jG;rw [if_neg hf]
  rw [eM] at hok
  rw [eM,eP,eK]
  unfold nW at hf
  have hown := jY _ hok
  repeat' (first|(apply aF;first|(with_reducible apply aW (d := 41))|(with_reducible apply aW (d := 54)))|refine aE ?_|(refine aJ ?_ ?_ <;> intro hc hq <;> try (exfalso;omega))|(refine bO ?_ ?_ <;> intro hg hq <;> try (exfalso;omega))|fail)
  ·exfalso
   have h : (cS m j (.own (0 + 1 + 1 + 3 + 3) 0 r.length 2))[j]!.next = 1000 := by assumption
   rw [hog] at h
   dsimp only at h
   omega
  ·refine bU ?_
   rw [hog]
   dsimp only
   repeat' (first|(apply aF;first|(apply bB;rfl;rfl;rfl;rfl;rfl;(rw [aI,cP]; simp only [List.length_append,List.length_cons,List.length_nil]; omega);(first|exact tU hj|exact yN hj))|(apply bS;rfl;rfl;rfl;rfl;rfl;(rw [aI]; omega);(rfl);omega;omega;(exact sS (by (omega)));rfl;rfl)|(apply aL (t := _);rfl;rfl;rfl;(exact (rfl:_=some [_,_]));rfl;rfl))|refine aE ?_|fail)
   refine AW.le ?_ (Le.cls (o := 3) (q := 0 + 1 + 1 + 3 + 4 + 1) (j := j) (k := r.length + 1) (m := m.set j { m[j]! with next := m[j]!.next + 1 }) (r := r ++ [⟨m[j]!.next,false⟩]) rfl rfl (by (rw [List.length_append]; rfl)) (by omega) (by decide))
   refine AW.le ?_ (Le.frzD (d := 9) (i := 3) rfl rfl)
   have e : (m.set j { m[j]! with next := m[j]!.next + 1 }).set j { (m.set j { m[j]! with next := m[j]!.next + 1 })[j]! with stk := r ++ [⟨m[j]!.next, false⟩] } = m.set j (psh { m[j]! with stk := r } false) := by
    rw [kV hj,set_set]; rfl
   rw [e,dV (f := bE) (xs := m.set j (psh { m[j]! with stk := r } false)) (by rw [List.length_set])]
   repeat' (first|(apply aF;(apply gS;rfl;exact hown;rfl;rfl))|refine aE ?_|refine bI ?_|fail)
   refine aR (Le.frzD (d := 6) (i := 12) rfl rfl) ?_
   exact aD (l := [sl bE (m.set j (psh { m[j]! with stk := r } false)),.agg [iv (j : Int),iv m[j]!.next],iv 0]) rfl ⟨rfl,by exact Pur.pf⟩
  all_goals (exfalso;omega)
theorem KL (m:List Cl) (hm:OkM m) (j k:Nat) (t:Int) (r:List Tg) (hj:j < m.length) (hkk:b7 m[j]!.stk t = (k:Int)) (hk:a7 m ⟨(j:Int),t⟩ true = 0) (hr:r = fZ m[j]!.stk k true):PC Tryz.prog 200 [sl bE m,.agg [iv (j:Int),iv t],bv true] (fun z => z = .tup [sl bE (jC m m j true r),mK (jD m j r),iv (jG m j r)]):=by
 have hml := hm.l
 obtain ⟨h1,h2,h3,h4,hu⟩ := dB hk
 have hc := ((cL m).1 hm).2 j hj
 have hb := dX m[j]!.stk t
 have hrl : r.length ≤ 200 := by rw [hr]; exact Nat.le_trans tchS_sub.length_le hc.l.2
 have hnx := hc.n
 obtain ⟨_,e2,_⟩ := vF hk (r := r) (by rw [hr]; show _ = fZ m[j]!.stk (b7 m[j]!.stk t).toNat true;rw [hkk]; rfl)
 have e2' : nG m ⟨(j : Int),t⟩ true = jC m m j true r := e2
 have hok := hm.ln ⟨(j : Int),t⟩ true
 rw [e2'] at hok
 have huk : m[j]!.stk[k]!.uq = true := by
  have h : m[j]!.stk[(b7 m[j]!.stk t).toNat]!.uq = true := hu rfl
  rwa [hkk,Int.toNat_natCast] at h
 have hre : m[j]!.stk.take (k + 1) = r := by rw [hr]; unfold fZ;rw [if_pos rfl]
 have hrk : k + 1 = r.length := by rw [← hre,List.length_take]; omega
 have hto := F8 m j t r k m.length hm rfl hj hkk h3 huk hre hrk
 clear hre hrk huk hu hr hkk
 have hog := gJ (m := m) (j := j) (X := .own (0 + 1 + 1 + 2) 0 r.length 2) hj
 have hol := cP (m := m) (j := j) (X := .own (0 + 1 + 1 + 2) 0 r.length 2)
 have hol2 := cP (m := m) (j := j) (X := .own (0 + 1 + 1 + 3 + 0 + 1) 0 (r.length + 1) 2)
 have hm2 : (m.set j { m[j]! with next := m[j]!.next + 1 }).length = m.length := List.length_set
 refine aB Tryz.func200 Tryz.ntmps200 ?_
 repeat' (first|(apply aF;first|(apply oS (j := j);rfl;exact sB m j hm hj;rfl;rfl)|(apply D0 (m := m) (j := j) (t := t) (r := r) (n := m.length);rfl;rfl;rfl;rfl;rfl;rfl;exact hto;rfl;rfl)|(with_reducible apply aW (d := 32)))|refine aE ?_|fail)
 refine bU ?_
 rw [hog]
 dsimp only
 by_cases hf : nW m j r
 ·have eM : jC m m j true r = m := by unfold jC; rw [if_pos hf]
  have eP : jD m j r = ⟨0,0⟩ := by unfold jD;rw [if_pos hf]
  have eK : jG m j r = 4 := by unfold jG;rw [if_pos hf]
  rw [eM,eP,eK]
  unfold nW at hf
  repeat' (first|(apply aF;first|(apply gS;rfl;exact jY m hm;rfl;rfl)|(with_reducible apply aW (d := 44)))|refine aE ?_|(refine aJ ?_ ?_ <;> intro hc hq <;> try (exfalso;omega))|(refine bO ?_ ?_ <;> intro hg hq <;> try (exfalso;omega))|fail)
  ·refine aR (Le.frzD (d := 6) (i := 6) rfl rfl) ?_
   exact aD (l := [sl bE m,.agg [iv 0,iv 0],iv 4]) rfl ⟨rfl,by exact Pur.pf⟩
  ·exfalso
   have h : ¬ (cS m j (.own (0 + 1 + 1 + 2) 0 r.length 2))[j]!.next = 1000 := by assumption
   rw [hog] at h
   dsimp only at h
   omega
  ·refine aR (Le.frzD (d := 6) (i := 6) rfl rfl) ?_
   exact aD (l := [sl bE m,.agg [iv 0,iv 0],iv 4]) rfl ⟨rfl,by exact Pur.pf⟩
 ·have eM : jC m m j true r = m.set j (psh { m[j]! with stk := r } true) := by unfold jC; rw [if_neg hf]
  have eP : jD m j r = ⟨j,m[j]!.next⟩ := by unfold jD;rw [if_neg hf]
  have eK : jG m j r = 0 := by unfold jG;rw [if_neg hf]
  rw [eM] at hok
  rw [eM,eP,eK]
  unfold nW at hf
  have hown := jY _ hok
  repeat' (first|(apply aF;first|(with_reducible apply aW (d := 41))|(with_reducible apply aW (d := 54)))|refine aE ?_|(refine aJ ?_ ?_ <;> intro hc hq <;> try (exfalso;omega))|(refine bO ?_ ?_ <;> intro hg hq <;> try (exfalso;omega))|fail)
  ·exfalso
   have h : (cS m j (.own (0 + 1 + 1 + 2) 0 r.length 2))[j]!.next = 1000 := by assumption
   rw [hog] at h
   dsimp only at h
   omega
  ·refine bU ?_
   rw [hog]
   dsimp only
   repeat' (first|(apply aF;first|(apply bB;rfl;rfl;rfl;rfl;rfl;(rw [aI,cP]; simp only [List.length_append,List.length_cons,List.length_nil]; omega);(first|exact tU hj|exact yN hj))|(apply bS;rfl;rfl;rfl;rfl;rfl;(rw [aI]; omega);(rfl);omega;omega;(exact sS (by (omega)));rfl;rfl)|(apply aL (t := _);rfl;rfl;rfl;(exact (rfl:_=some [_,_]));rfl;rfl))|refine aE ?_|fail)
   refine AW.le ?_ (Le.cls (o := 3) (q := 0 + 1 + 1 + 3 + 0 + 1) (j := j) (k := r.length + 1) (m := m.set j { m[j]! with next := m[j]!.next + 1 }) (r := r ++ [⟨m[j]!.next,true⟩]) rfl rfl (by (rw [List.length_append]; rfl)) (by omega) (by decide))
   refine AW.le ?_ (Le.frzD (d := 9) (i := 3) rfl rfl)
   have e : (m.set j { m[j]! with next := m[j]!.next + 1 }).set j { (m.set j { m[j]! with next := m[j]!.next + 1 })[j]! with stk := r ++ [⟨m[j]!.next, true⟩] } = m.set j (psh { m[j]! with stk := r } true) := by
    rw [kV hj,set_set]; rfl
   rw [e,dV (f := bE) (xs := m.set j (psh { m[j]! with stk := r } true)) (by rw [List.length_set])]
   repeat' (first|(apply aF;(apply gS;rfl;exact hown;rfl;rfl))|refine aE ?_|refine bI ?_|fail)
   refine aR (Le.frzD (d := 6) (i := 8) rfl rfl) ?_
   exact aD (l := [sl bE (m.set j (psh { m[j]! with stk := r } true)),.agg [iv (j : Int),iv m[j]!.next],iv 0]) rfl ⟨rfl,by exact Pur.pf⟩
  all_goals (exfalso;omega)
theorem Je (m:List Cl) (hm:OkM m) (x:Pt) (u:Bool):PC Tryz.prog 200 [sl bE m,mK x,bv u] (fun r => r = .tup [sl bE (nG m x u),mK (rF m x u),iv (lV m x u)]):=by
 have hml := hm.l
 by_cases hk : a7 m x u = 0
 ·obtain ⟨c, t⟩ := x
  obtain ⟨h1,h2,h3,h4,hu⟩ := dB hk
  obtain ⟨j,rfl⟩ := Int.eq_ofNat_of_zero_le (show 0 ≤ c from h1)
  have hj : j < m.length := by have : (j : Int) < m.length := h2;omega
  obtain ⟨k,hkk⟩ := Int.eq_ofNat_of_zero_le (show 0 ≤ b7 m[j]!.stk t from h4)
  obtain ⟨r,hr⟩ : ∃ r,r = fZ m[j]!.stk k u := ⟨_,rfl⟩
  obtain ⟨e1,e2,e3⟩ := vF hk (r := r) (by rw [hr]; show _ = fZ m[j]!.stk (b7 m[j]!.stk t).toNat u;rw [hkk]; rfl)
  rw [e1,e2,e3]
  cases u
  ·exact Kf m hm j k t r hj hkk hk hr
  ·exact KL m hm j k t r hj hkk hk hr
 ·obtain ⟨e1, e2, e3⟩ := Hv hk
  rw [e1,e2,e3]
  refine aB Tryz.func200 Tryz.ntmps200 ?_
  repeat' (first|(apply aF;first|(apply gS;rfl;exact jY m hm;rfl;rfl)|(apply m5 (m := m) (x := x) (wr := u) (n := m.length);rfl;rfl;rfl;rfl;exact oA m x u _ hm rfl hk;rfl;rfl))|refine aE ?_|(refine aJ ?_ ?_ <;> intro hc hq <;> try (exfalso;omega))|fail)
  refine aR (Le.frzD (d := 6) (i := 3) rfl rfl) ?_
  exact aD (l := [sl bE m,.agg [iv 0,iv 0],iv (a7 m x u)]) rfl ⟨rfl,by exact Pur.pf⟩
abbrev mO (ts : List Int) (bd : List AL.Stmt) (pts : List Pnt) (i1 i2 : Nat) (s : Mc) : List AV := [aG ts bd pts,.own i1 0 ts.length 4,sl bE s.cells,.own i2 0 s.read.length 1]
theorem Bm {ts:List Int}{bd:List AL.Stmt}{pts:List Pnt}{s:Mc}{v:Nat}{x0 x1:Operand}{i0 i1 i2:Nat}(ha0:ev (lk tsl) x0 = some (.optr i0 0)) (ha1:ev (lk tsl) x1 = some (iv (v:Int))) (hH0:aO hsl i0 = some (mO ts bd pts i1 i2 s)) (hH1:aO hsl i1 = some (flat cT s.slots)) (hH2:aO hsl i2 = some (flat cI s.read)) (hdd:Go.AL.distinct [i0,i1,i2] = true) (hmc:MC Tryz.prog 204 [.optr 0 0,iv (v:Int)] [(0,some (mO ts bd pts 1 2 s)),(1,some (flat cT s.slots)),(2,some (flat cI s.read))] 3 (fun _:Unit => True) (fun _ => iv (o6 (a7 s.cells s.slots[v]!.ptr true))) (fun _ => [(0,some ([aG ts bd pts,.own 1 0 ts.length 4,sl bE (k9 s.cells s.slots[v]!.ptr),.own 2 0 s.read.length 1])),(1,some (flat cT s.slots)),(2,some (flat cI s.read))])) (hM:Nat.ble (nidl + 0) aV = true) (hN:Nat.blt d N = true){md':Md}[hmd:MdA md (fU [x0,x1] ++ [.inr i0,.inr i1,.inr i2]) (List.map Sum.inr (List.map Prod.fst ([(i0,some ([aG ts bd pts,.own i1 0 ts.length 4,sl bE (k9 s.cells s.slots[v]!.ptr),.own i2 0 s.read.length 1])),(i1,some (flat cT s.slots)),(i2,some (flat cI s.read))]:List (Nat × Option (List AV)))) ++ [.inl d]) md'] (kk:RW Tryz.prog N all Q md' rest ⟨(d,iv (o6 (a7 s.cells s.slots[v]!.ptr true))) :: tsl,hO hsl [(i0,some ([aG ts bd pts,.own i1 0 ts.length 4,sl bE (k9 s.cells s.slots[v]!.ptr),.own i2 0 s.read.length 1])),(i1,some (flat cT s.slots)),(i2,some (flat cI s.read))],nidl + 0,z0⟩):RW Tryz.prog N all Q md (⟨some d,.call ⟨.value (.func 204),#[x0,x1],tys⟩,ty,pos,af,none⟩ :: rest) ⟨tsl,hsl,nidl,z0⟩:=by
 exact aZ (l := [x0,x1]) [i0,i1,i2] 3 [(i0,some ([aG ts bd pts,.own i1 0 ts.length 4,sl bE (k9 s.cells s.slots[v]!.ptr),.own i2 0 s.read.length 1])),(i1,some (flat cT s.slots)),(i2,some (flat cI s.read))] hmc (avs := [.optr i0 0,iv (v : Int)]) (by simp only [evL,ha0,ha1]) hdd hM hN (md' := md') (hmd := hmd) kk
theorem wL (ts:List Int) (bd:List AL.Stmt) (pts:List Pnt) (s:Mc) (v:Nat) (hm:OkM s.cells) (hsl:s.slots.length = ts.length) (hv:v < ts.length):MC Tryz.prog 204 [.optr 0 0,iv (v:Int)] [(0,some (mO ts bd pts 1 2 s)),(1,some (flat cT s.slots)),(2,some (flat cI s.read))] 3 (fun _:Unit => True) (fun _ => iv (o6 (a7 s.cells s.slots[v]!.ptr true))) (fun _ => [(0,some ([aG ts bd pts,.own 1 0 ts.length 4,sl bE (k9 s.cells s.slots[v]!.ptr),.own 2 0 s.read.length 1])),(1,some (flat cT s.slots)),(2,some (flat cI s.read))]):=by
 have hfc := Br s.cells hm s.slots[v]!.ptr
 refine aX Tryz.func204 Tryz.ntmps204 ?_
 repeat' (first|(apply aF;first|(apply iI;(case hx|hH => rfl);(case hf|hg|hα => infer_instance);(case hk => omega);(case hj => decide);(case hc => exact (rfl:_=[_,_]));(case h0|hN => rfl))|(apply aA (k := 243);rfl;exact hfc;exact Pur.pf;rfl)|(apply aA (k := 201);rfl;(apply rC);(rfl);rfl))|refine aE ?_|(refine aJ ?_ ?_ <;> intro hc hq <;> try (exfalso;omega))|refine bI ?_|fail)
 ·have hk : ¬ a7 s.cells s.slots[v]!.ptr true = 0 := by assumption
  (refine aD rfl ?_; refine aT () trivial ?_ ⟨sE ?_,⟨sE ?_,⟨sE ?_,trivial⟩⟩⟩)
  ·show iv (eR _) = iv (o6 _)
   unfold o6;rw [if_neg hk]
  ·rfl
  ·rfl
  ·rfl
 ·have hk : a7 s.cells s.slots[v]!.ptr true = 0 := by assumption
  (refine aD rfl ?_; refine aT () trivial ?_ ⟨sE ?_,⟨sE ?_,⟨sE ?_,trivial⟩⟩⟩)
  ·rw [hk]; rfl
  ·rfl
  ·rfl
  ·rfl
theorem Nh (ts:List Int) (bd:List AL.Stmt) (pts:List Pnt) (s:Mc) (v:Nat) (y:Sl) (hm:OkM s.cells) (hsl:s.slots.length = ts.length) (hv:v < ts.length):MC Tryz.prog 197 [.optr 0 0,iv (v:Int),HD y] [(0,some (mO ts bd pts 1 2 s)),(1,some (flat cT s.slots)),(2,some (flat cI s.read))] 3 (fun _:Unit => True) (fun _ => iv (bT ts s v y).2) (fun _ => [(0,some (mO ts bd pts 1 2 (bT ts s v y).1)),(1,some (flat cT (bT ts s v y).1.slots)),(2,some (flat cI (bT ts s v y).1.read))]):=by
 have hfr := wL ts bd pts s v hm hsl hv
 refine aX Tryz.func197 Tryz.ntmps197 ?_
 repeat' (first|(apply aF;first|(apply Bm (ts := ts) (bd := bd) (pts := pts) (s := s) (v := v);rfl;rfl;rfl;rfl;rfl;rfl;exact hfr;rfl;rfl)|(apply bB;rfl;rfl;rfl;rfl;rfl;(rw [aI]; simp only [gB] <;> omega);(exact uX (by (omega)))))|refine aE ?_|(refine aJ ?_ ?_ <;> intro hc hq <;> try (exfalso;omega))|(refine bO ?_ ?_ <;> intro hg hq <;> try (exfalso;omega))|refine bI ?_|fail)
 ·have hp : bT ts s v y = (⟨s.slots.set v y, k9 s.cells s.slots[v]!.ptr, s.read⟩, o6 (a7 s.cells s.slots[v]!.ptr true)) := if_pos ⟨by assumption, by assumption⟩
  rw [hp]
  (refine aD rfl ?_; refine aT () trivial ?_ ⟨sE ?_,⟨sE ?_,⟨sE ?_,trivial⟩⟩⟩)
  ·rfl
  ·rfl
  ·rfl
  ·rfl
 all_goals (
  have hp : bT ts s v y = (⟨s.slots.set v y, s.cells, s.read⟩, -1) := if_neg (by
   rintro ⟨q1,q2⟩
   first|(exact (by assumption : ¬ ts[v]! = 2) q1)|(rw [(by assumption : s.slots[v]!.set = false)] at q2;exact absurd q2 (by decide)))
  rw [hp]
  (refine aD rfl ?_; refine aT () trivial ?_ ⟨sE ?_,⟨sE ?_,⟨sE ?_,trivial⟩⟩⟩)
  ·rfl
  ·rfl
  ·rfl
  ·rfl)
theorem K0 {ts:List Int}{bd:List AL.Stmt}{pts:List Pnt}{s:Mc}{x0:Operand}{i0 i1 i2:Nat}(ha0:ev (lk tsl) x0 = some (.optr i0 0)) (hH0:aO hsl i0 = some (mO ts bd pts i1 i2 s)) (hH1:aO hsl i1 = some (flat cT s.slots)) (hH2:aO hsl i2 = some (flat cI s.read)) (hdd:Go.AL.distinct [i0,i1,i2] = true) (hmc:MC Tryz.prog 205 [.optr 0 0] [(0,some (mO ts bd pts 1 2 s)),(1,some (flat cT s.slots)),(2,some (flat cI s.read))] 3 (fun _:Unit => True) (fun _ => iv (cF ts ts.length 0 s).2) (fun _ => [(0,some (mO ts bd pts 1 2 (cF ts ts.length 0 s).1)),(1,some (flat cT (cF ts ts.length 0 s).1.slots)),(2,some (flat cI (cF ts ts.length 0 s).1.read))])) (hM:Nat.ble (nidl + 0) aV = true) (hN:Nat.blt d N = true){md':Md}[hmd:MdA md (fU [x0] ++ [.inr i0,.inr i1,.inr i2]) (List.map Sum.inr (List.map Prod.fst ([(i0,some (mO ts bd pts i1 i2 (cF ts ts.length 0 s).1)),(i1,some (flat cT (cF ts ts.length 0 s).1.slots)),(i2,some (flat cI (cF ts ts.length 0 s).1.read))]:List (Nat × Option (List AV)))) ++ [.inl d]) md'] (kk:RW Tryz.prog N all Q md' rest ⟨(d,iv (cF ts ts.length 0 s).2) :: tsl,hO hsl [(i0,some (mO ts bd pts i1 i2 (cF ts ts.length 0 s).1)),(i1,some (flat cT (cF ts ts.length 0 s).1.slots)),(i2,some (flat cI (cF ts ts.length 0 s).1.read))],nidl + 0,z0⟩):RW Tryz.prog N all Q md (⟨some d,.call ⟨.value (.func 205),#[x0],tys⟩,ty,pos,af,none⟩ :: rest) ⟨tsl,hsl,nidl,z0⟩:=by
 exact aZ (l := [x0]) [i0,i1,i2] 3 [(i0,some (mO ts bd pts i1 i2 (cF ts ts.length 0 s).1)),(i1,some (flat cT (cF ts ts.length 0 s).1.slots)),(i2,some (flat cI (cF ts ts.length 0 s).1.read))] hmc (avs := [.optr i0 0]) (by simp only [evL,ha0]) hdd hM hN (md' := md') (hmd := hmd) kk
theorem LO (ts:List Int) (bd:List AL.Stmt) (pts:List Pnt) (s:Mc) (hm:OkM s.cells) (hsl:s.slots.length = ts.length) (hl:ts.length ≤ 1048576):MC Tryz.prog 205 [.optr 0 0] [(0,some (mO ts bd pts 1 2 s)),(1,some (flat cT s.slots)),(2,some (flat cI s.read))] 3 (fun _:Unit => True) (fun _ => iv (cF ts ts.length 0 s).2) (fun _ => [(0,some (mO ts bd pts 1 2 (cF ts ts.length 0 s).1)),(1,some (flat cT (cF ts ts.length 0 s).1.slots)),(2,some (flat cI (cF ts ts.length 0 s).1.read))]):=by
 refine aX Tryz.func205 Tryz.ntmps205 ?_
 repeat' (first|refine aE ?_|fail)
 refine aH (σ := Nat × Mc) [0,13,14] [] (fun k => [(15,iv (k.1 : Int))]) (fun k => [(0,some (mO ts bd pts 1 2 k.2)),(1,some (flat cT k.2.slots)),(2,some (flat cI k.2.read))]) (fun k => k.1 ≤ ts.length ∧ cF ts (ts.length - k.1) k.1 k.2 = cF ts ts.length 0 s ∧ OkM k.2.cells ∧ k.2.slots.length = ts.length) (fun k => ts.length - k.1) (0,s) ⟨Nat.zero_le _,rfl,hm,hsl⟩ ?_
 rintro ⟨v,q⟩ ⟨hv,hf,hmq,hlq⟩
 dsimp only at hv hf hmq hlq ⊢
 by_cases hvn : v < ts.length
 ·have hfr := wL ts bd pts q v hmq hlq hvn
  repeat' (first|(apply aF;first|(apply Bm (ts := ts) (bd := bd) (pts := pts) (s := q) (v := v);rfl;rfl;rfl;rfl;rfl;rfl;exact hfr;rfl;rfl)|(apply bB;rfl;rfl;rfl;rfl;rfl;(rw [aI]; simp only [gB] <;> omega);(exact uX (by (omega)))))|refine aE ?_|(refine aJ ?_ ?_ <;> intro hc hq <;> try (exfalso;omega))|(refine bO ?_ ?_ <;> intro hg hq <;> try (exfalso;omega))|fail)
  ·(refine bC (v + 1, q) (Le.renA []) ?_ ?_)
   ·refine ⟨by omega, ?_, hmq, hlq⟩
    dsimp only
    rw [← hf, show ts.length - v = (ts.length - (v + 1)) + 1 by omega, wK (fun h => by
     have h2 : q.slots[v]!.set = false := by assumption
     rw [h2] at h;exact absurd h.2 (by decide))]
   ·dsimp only;omega
  ·have hk : ¬ a7 q.cells q.slots[v]!.ptr true = 0 := fun h => by
    have h2 : ¬ o6 (a7 q.cells q.slots[v]!.ptr true) = -1 := by assumption
    rw [h] at h2;exact h2 rfl
   have hq2 : cF ts ts.length 0 s = (⟨q.slots, k9 q.cells q.slots[v]!.ptr, q.read⟩, eR (a7 q.cells q.slots[v]!.ptr true)) := by
    rw [← hf,show ts.length - v = (ts.length - (v + 1)) + 1 by omega,Ge ⟨by assumption,by assumption⟩ hk]
   rw [hq2]
   (refine aD rfl ?_; refine aT () trivial ?_ ⟨sE ?_,⟨sE ?_,⟨sE ?_,trivial⟩⟩⟩)
   ·show iv (o6 _) = iv (eR _)
    unfold o6;rw [if_neg hk]
   ·rfl
   ·rfl
   ·rfl
  ·have hk : a7 q.cells q.slots[v]!.ptr true = 0 := by
    have h2 : o6 (a7 q.cells q.slots[v]!.ptr true) = -1 := by assumption
    unfold o6 at h2
    by_cases h : a7 q.cells q.slots[v]!.ptr true = 0
    ·exact h
    ·rw [if_neg h] at h2;unfold eR at h2;split at h2 <;> cases h2
   have hls : (q.slots.set v mL).length = q.slots.length := List.length_set
   (refine bC (v + 1,⟨q.slots.set v mL,k9 q.cells q.slots[v]!.ptr,q.read⟩) (Le.renA []) ?_ ?_)
   ·refine ⟨by dsimp only; omega, ?_, hmq.fr _, by show (q.slots.set v mL).length = _; rw [List.length_set]; exact hlq⟩
    dsimp only
    rw [← hf,show ts.length - v = (ts.length - (v + 1)) + 1 by omega,Hd ⟨by assumption,by assumption⟩ hk]
   ·dsimp only;omega
  ·(refine bC (v + 1, q) (Le.renA []) ?_ ?_)
   ·refine ⟨by omega, ?_, hmq, hlq⟩
    dsimp only
    rw [← hf, show ts.length - v = (ts.length - (v + 1)) + 1 by omega, wK (fun h => by
     have h2 : ¬ ts[v]! = 2 := by assumption
     exact h2 h.1)]
   ·dsimp only;omega
 ·have hve : v = ts.length := by omega
  have hq2 : cF ts ts.length 0 s = (q,0) := by rw [← hf,hve,Nat.sub_self]; rfl
  repeat' (first|refine aE ?_|(refine aJ ?_ ?_ <;> intro hc hq <;> try (exfalso;omega))|fail)
  rw [hq2]
  (refine aD rfl ?_; refine aT () trivial ?_ ⟨sE ?_,⟨sE ?_,⟨sE ?_,trivial⟩⟩⟩)
  ·rfl
  ·rfl
  ·rfl
  ·rfl
def dH (ts : List Int) (s : Mc) (x : Pnt) : Mc × Int := if cG ts s x = true then (s,2) else c7 ts s x
theorem uW {ts:List Int}{s:Mc}{x:Pnt}(h:cG ts s x = true):dH ts s x = (s,2) := if_pos h
theorem qU {ts:List Int}{s:Mc}{x:Pnt}(h:cG ts s x = false):dH ts s x = c7 ts s x := if_neg (by rw [h]; decide)
theorem gK {ts:List Int}{x:Pnt}{v:Int}(h:v ∈ a8 (wS ts x [1,2,3])):0 ≤ v ∧ v < ts.length:=by
 obtain ⟨v',h3,h4,rfl⟩ := cM.1 h
 rw [b9,Bool.and_eq_true,decide_eq_true_eq] at h4
 omega
theorem b8 {ts:List Int}{s:Mc}{x:Pnt}(htl:ts.length ≤ 6):cG ts s x = true ↔ ∃ v ∈ a8 (wS ts x [1,2,3]),s.slots[v.toNat]!.set = false:=by
 constructor
 ·intro h
  obtain ⟨v,hv,hne,hs⟩ := zH h
  refine ⟨(v : Int),cM.2 ⟨v,by omega,?_,rfl⟩,hs⟩
  have hb := pA ts x v
  rw [b9,decide_eq_true hv,Bool.true_and,decide_eq_true_eq]
  simp only [List.mem_cons,List.not_mem_nil,or_false]; omega
 ·rintro ⟨v, hv, hs⟩
  obtain ⟨v',h3,h4,rfl⟩ := cM.1 hv
  rw [b9,Bool.and_eq_true,decide_eq_true_eq,decide_eq_true_eq] at h4
  unfold cG
  refine List.any_eq_true.2 ⟨v',List.mem_range.2 h4.1,?_⟩
  rw [Bool.and_eq_true,decide_eq_true_eq]
  refine ⟨fun e => ?_,by rw [show s.slots[v']!.set = false from hs]; rfl⟩
  have h5 := h4.2
  simp only [List.mem_cons,List.not_mem_nil,or_false] at h5;omega
theorem L7 {ts:List Int}{bd:List AL.Stmt}{pts:List Pnt}{s:Mc}{x:Pnt}{x0 x1:Operand}{i0 i1 i2:Nat}(ha0:ev (lk tsl) x0 = some (.optr i0 0)) (ha1:ev (lk tsl) x1 = some (dD x)) (hH0:aO hsl i0 = some (mO ts bd pts i1 i2 s)) (hH1:aO hsl i1 = some (flat cT s.slots)) (hH2:aO hsl i2 = some (flat cI s.read)) (hdd:Go.AL.distinct [i0,i1,i2] = true) (hmc:MC Tryz.prog 140 [.optr 0 0,dD x] [(0,some (mO ts bd pts 1 2 s)),(1,some (flat cT s.slots)),(2,some (flat cI s.read))] 3 (fun _:Unit => True) (fun _ => iv (dH ts s x).2) (fun _ => [(0,some (mO ts bd pts 1 2 (dH ts s x).1)),(1,some (flat cT (dH ts s x).1.slots)),(2,some (flat cI (dH ts s x).1.read))])) (hM:Nat.ble (nidl + 0) aV = true) (hN:Nat.blt d N = true){md':Md}[hmd:MdA md (fU [x0,x1] ++ [.inr i0,.inr i1,.inr i2]) (List.map Sum.inr (List.map Prod.fst ([(i0,some (mO ts bd pts i1 i2 (dH ts s x).1)),(i1,some (flat cT (dH ts s x).1.slots)),(i2,some (flat cI (dH ts s x).1.read))]:List (Nat × Option (List AV)))) ++ [.inl d]) md'] (kk:RW Tryz.prog N all Q md' rest ⟨(d,iv (dH ts s x).2) :: tsl,hO hsl [(i0,some (mO ts bd pts i1 i2 (dH ts s x).1)),(i1,some (flat cT (dH ts s x).1.slots)),(i2,some (flat cI (dH ts s x).1.read))],nidl + 0,z0⟩):RW Tryz.prog N all Q md (⟨some d,.call ⟨.value (.func 140),#[x0,x1],tys⟩,ty,pos,af,none⟩ :: rest) ⟨tsl,hsl,nidl,z0⟩:=by
 exact aZ (l := [x0,x1]) [i0,i1,i2] 3 [(i0,some (mO ts bd pts i1 i2 (dH ts s x).1)),(i1,some (flat cT (dH ts s x).1.slots)),(i2,some (flat cI (dH ts s x).1.read))] hmc (avs := [.optr i0 0,dD x]) (by simp only [evL,ha0,ha1]) hdd hM hN (md' := md') (hmd := hmd) kk
theorem j8 {ts:List Int}{bd:List AL.Stmt}{pts:List Pnt}{s:Mc}{v:Int}{y:Sl}{x0 x1 x2:Operand}{i0 i1 i2:Nat}(ha0:ev (lk tsl) x0 = some (.optr i0 0)) (ha1:ev (lk tsl) x1 = some (iv v)) (ha2:ev (lk tsl) x2 = some (HD y)) (hH0:aO hsl i0 = some (mO ts bd pts i1 i2 s)) (hH1:aO hsl i1 = some (flat cT s.slots)) (hH2:aO hsl i2 = some (flat cI s.read)) (hdd:Go.AL.distinct [i0,i1,i2] = true) (hmc:MC Tryz.prog 197 [.optr 0 0,iv v,HD y] [(0,some (mO ts bd pts 1 2 s)),(1,some (flat cT s.slots)),(2,some (flat cI s.read))] 3 (fun _:Unit => True) (fun _ => iv (bT ts s v.toNat y).2) (fun _ => [(0,some (mO ts bd pts 1 2 (bT ts s v.toNat y).1)),(1,some (flat cT (bT ts s v.toNat y).1.slots)),(2,some (flat cI (bT ts s v.toNat y).1.read))])) (hM:Nat.ble (nidl + 0) aV = true) (hN:Nat.blt d N = true){md':Md}[hmd:MdA md (fU [x0,x1,x2] ++ [.inr i0,.inr i1,.inr i2]) (List.map Sum.inr (List.map Prod.fst ([(i0,some (mO ts bd pts i1 i2 (bT ts s v.toNat y).1)),(i1,some (flat cT (bT ts s v.toNat y).1.slots)),(i2,some (flat cI (bT ts s v.toNat y).1.read))]:List (Nat × Option (List AV)))) ++ [.inl d]) md'] (kk:RW Tryz.prog N all Q md' rest ⟨(d,iv (bT ts s v.toNat y).2) :: tsl,hO hsl [(i0,some (mO ts bd pts i1 i2 (bT ts s v.toNat y).1)),(i1,some (flat cT (bT ts s v.toNat y).1.slots)),(i2,some (flat cI (bT ts s v.toNat y).1.read))],nidl + 0,z0⟩):RW Tryz.prog N all Q md (⟨some d,.call ⟨.value (.func 197),#[x0,x1,x2],tys⟩,ty,pos,af,none⟩ :: rest) ⟨tsl,hsl,nidl,z0⟩:=by
 exact aZ (l := [x0,x1,x2]) [i0,i1,i2] 3 [(i0,some (mO ts bd pts i1 i2 (bT ts s v.toNat y).1)),(i1,some (flat cT (bT ts s v.toNat y).1.slots)),(i2,some (flat cI (bT ts s v.toNat y).1.read))] hmc (avs := [.optr i0 0,iv v,HD y]) (by simp only [evL,ha0,ha1,ha2]) hdd hM hN (md' := md') (hmd := hmd) kk
theorem mM (ts:List Int) (bd:List AL.Stmt) (pts:List Pnt) (s:Mc) (v:Int) (y:Sl) (hm:OkM s.cells) (hsl:s.slots.length = ts.length) (hv:0 ≤ v ∧ v < ts.length):MC Tryz.prog 197 [.optr 0 0,iv v,HD y] [(0,some (mO ts bd pts 1 2 s)),(1,some (flat cT s.slots)),(2,some (flat cI s.read))] 3 (fun _:Unit => True) (fun _ => iv (bT ts s v.toNat y).2) (fun _ => [(0,some (mO ts bd pts 1 2 (bT ts s v.toNat y).1)),(1,some (flat cT (bT ts s v.toNat y).1.slots)),(2,some (flat cI (bT ts s v.toNat y).1.read))]):=by
 have h := Nh ts bd pts s v.toNat y hm hsl (by omega)
 rw [Int.toNat_of_nonneg hv.1] at h
 exact h
theorem Ex {ts:List Int}{bd:List AL.Stmt}{pts:List Pnt}{s:Mc}{v:Int}{x0 x1:Operand}{i0 i1 i2:Nat}(ha0:ev (lk tsl) x0 = some (.optr i0 0)) (ha1:ev (lk tsl) x1 = some (iv v)) (hH0:aO hsl i0 = some (mO ts bd pts i1 i2 s)) (hH1:aO hsl i1 = some (flat cT s.slots)) (hH2:aO hsl i2 = some (flat cI s.read)) (hdd:Go.AL.distinct [i0,i1,i2] = true) (hmc:MC Tryz.prog 204 [.optr 0 0,iv v] [(0,some (mO ts bd pts 1 2 s)),(1,some (flat cT s.slots)),(2,some (flat cI s.read))] 3 (fun _:Unit => True) (fun _ => iv (o6 (a7 s.cells s.slots[v.toNat]!.ptr true))) (fun _ => [(0,some ([aG ts bd pts,.own 1 0 ts.length 4,sl bE (k9 s.cells s.slots[v.toNat]!.ptr),.own 2 0 s.read.length 1])),(1,some (flat cT s.slots)),(2,some (flat cI s.read))])) (hM:Nat.ble (nidl + 0) aV = true) (hN:Nat.blt d N = true){md':Md}[hmd:MdA md (fU [x0,x1] ++ [.inr i0,.inr i1,.inr i2]) (List.map Sum.inr (List.map Prod.fst ([(i0,some ([aG ts bd pts,.own i1 0 ts.length 4,sl bE (k9 s.cells s.slots[v.toNat]!.ptr),.own i2 0 s.read.length 1])),(i1,some (flat cT s.slots)),(i2,some (flat cI s.read))]:List (Nat × Option (List AV)))) ++ [.inl d]) md'] (kk:RW Tryz.prog N all Q md' rest ⟨(d,iv (o6 (a7 s.cells s.slots[v.toNat]!.ptr true))) :: tsl,hO hsl [(i0,some ([aG ts bd pts,.own i1 0 ts.length 4,sl bE (k9 s.cells s.slots[v.toNat]!.ptr),.own i2 0 s.read.length 1])),(i1,some (flat cT s.slots)),(i2,some (flat cI s.read))],nidl + 0,z0⟩):RW Tryz.prog N all Q md (⟨some d,.call ⟨.value (.func 204),#[x0,x1],tys⟩,ty,pos,af,none⟩ :: rest) ⟨tsl,hsl,nidl,z0⟩:=by
 exact aZ (l := [x0,x1]) [i0,i1,i2] 3 [(i0,some ([aG ts bd pts,.own i1 0 ts.length 4,sl bE (k9 s.cells s.slots[v.toNat]!.ptr),.own i2 0 s.read.length 1])),(i1,some (flat cT s.slots)),(i2,some (flat cI s.read))] hmc (avs := [.optr i0 0,iv v]) (by simp only [evL,ha0,ha1]) hdd hM hN (md' := md') (hmd := hmd) kk
theorem Hs (ts:List Int) (bd:List AL.Stmt) (pts:List Pnt) (s:Mc) (v:Int) (hm:OkM s.cells) (hsl:s.slots.length = ts.length) (hv:0 ≤ v ∧ v < ts.length):MC Tryz.prog 204 [.optr 0 0,iv v] [(0,some (mO ts bd pts 1 2 s)),(1,some (flat cT s.slots)),(2,some (flat cI s.read))] 3 (fun _:Unit => True) (fun _ => iv (o6 (a7 s.cells s.slots[v.toNat]!.ptr true))) (fun _ => [(0,some ([aG ts bd pts,.own 1 0 ts.length 4,sl bE (k9 s.cells s.slots[v.toNat]!.ptr),.own 2 0 s.read.length 1])),(1,some (flat cT s.slots)),(2,some (flat cI s.read))]):=by
 have h := wL ts bd pts s v.toNat hm hsl (by omega)
 rw [Int.toNat_of_nonneg hv.1] at h
 exact h
theorem NN (ts:List Int) (bd:List AL.Stmt) (pts:List Pnt) (s:Mc) (x:Pnt) (htl:ts.length ≤ 6) (hm:OkM s.cells) (hsl:s.slots.length = ts.length) (ho:x.op = 1) (hx:0 ≤ x.x ∧ x.x < ts.length):MC Tryz.prog 140 [.optr 0 0,dD x] [(0,some (mO ts bd pts 1 2 s)),(1,some (flat cT s.slots)),(2,some (flat cI s.read))] 3 (fun _:Unit => True) (fun _ => iv (dH ts s x).2) (fun _ => [(0,some (mO ts bd pts 1 2 (dH ts s x).1)),(1,some (flat cT (dH ts s x).1.slots)),(2,some (flat cI (dH ts s x).1.read))]):=by
 have hus := fR ts bd pts x htl
 have hsm : Sm (wS ts x [1,2,3]) := bR (by omega)
 obtain ⟨L,hL⟩ : ∃ L,L = a8 (wS ts x [1,2,3]) := ⟨_,rfl⟩
 have hLl : L.length ≤ 62 := by rw [hL]; exact cA _
 have hmem : ∀ k, k < L.length → 0 ≤ L[k]! ∧ L[k]! < s.slots.length := fun k hk => by
  rw [hsl]; exact gK (by rw [← hL]; exact aN _ _ hk)
 refine aX Tryz.func140 Tryz.ntmps140 ?_
 repeat' (first|(apply aF;first|(apply aA (k := 158);rfl;exact hus;exact Pur.pf;rfl)|(apply aA (k := 120);rfl;(apply fO <;> (assumption));(rfl);rfl))|refine aE ?_|refine bI ?_|fail)
 rw [← hL]
 refine aH (σ := Nat) [0,3,26,27] [0,1,2,3] (fun k => [(28,iv (k : Int))]) (fun k => []) (fun k => k ≤ L.length ∧ ∀ j,j < k → s.slots[(L[j]!).toNat]!.set = true) (fun k => L.length - k) (0) ⟨Nat.zero_le _,fun j h => absurd h (by omega)⟩ ?_
 rintro k ⟨hk,hall⟩
 by_cases hkn : k < L.length
 ·have hmk := hmem k hkn
  repeat' (first|refine aE ?_|(refine aJ ?_ ?_ <;> intro hc hq <;> try (exfalso;omega))|fail)
  ·have hu : cG ts s x = true := (b8 htl).2 ⟨L[k]!, by rw [← hL]; exact aN _ _ hkn, by assumption⟩
   rw [uW hu]
   (refine aD rfl ?_; refine aT () trivial ?_ ⟨sE ?_,⟨sE ?_,⟨sE ?_,trivial⟩⟩⟩)
   ·rfl
   ·rfl
   ·rfl
   ·rfl
  ·(refine bC (k + 1) (Le.renA [(3, 3)]) ?_ ?_)
   ·refine ⟨by omega, fun j hj => ?_⟩
    rcases Nat.lt_or_ge j k with h|h
    ·exact hall j h
    ·rw [show j = k by omega]; assumption
   ·omega
 ·have hu : cG ts s x = false := by
   cases q : cG ts s x with
   | false => rfl
   | true =>
    obtain ⟨v,hv,hs⟩ := (b8 htl).1 q
    rw [← hL] at hv
    obtain ⟨j,hj,e⟩ := List.getElem_of_mem hv
    have h1 := hall j (by omega)
    rw [aS _ _ hj,e,hs] at h1;cases h1
  rw [qU hu]
  have hd : c7 ts s x = bT ts s x.x.toNat ⟨true,x.n,⟨0,0⟩⟩ := by unfold c7;rw [if_pos ho]
  rw [hd]
  have hp := mM ts bd pts s x.x ⟨true,x.n,⟨0,0⟩⟩ hm hsl hx
  repeat' (first|(apply aF;(apply j8 (ts := ts) (bd := bd) (pts := pts) (s := s) (v := x.x) (y := ⟨true,x.n,⟨0,0⟩⟩);rfl;rfl;rfl;rfl;rfl;rfl;rfl;exact hp;rfl;rfl))|refine aE ?_|(refine aJ ?_ ?_ <;> intro hc hq <;> try (exfalso;omega))|fail)
  (refine aD rfl ?_; refine aT () trivial ?_ ⟨sE ?_,⟨sE ?_,⟨sE ?_,trivial⟩⟩⟩)
  ·rfl
  ·rfl
  ·rfl
  ·rfl
theorem NR (ts:List Int) (bd:List AL.Stmt) (pts:List Pnt) (s:Mc) (x:Pnt) (htl:ts.length ≤ 6) (hm:OkM s.cells) (hsl:s.slots.length = ts.length) (ho:x.op = 2) (hn:0 ≤ x.n ∧ x.n ≤ 9) (hx:0 ≤ x.x ∧ x.x < ts.length):MC Tryz.prog 140 [.optr 0 0,dD x] [(0,some (mO ts bd pts 1 2 s)),(1,some (flat cT s.slots)),(2,some (flat cI s.read))] 3 (fun _:Unit => True) (fun _ => iv (dH ts s x).2) (fun _ => [(0,some (mO ts bd pts 1 2 (dH ts s x).1)),(1,some (flat cT (dH ts s x).1.slots)),(2,some (flat cI (dH ts s x).1.read))]):=by
 have hus := fR ts bd pts x htl
 have hsm : Sm (wS ts x [1,2,3]) := bR (by omega)
 obtain ⟨L,hL⟩ : ∃ L,L = a8 (wS ts x [1,2,3]) := ⟨_,rfl⟩
 have hLl : L.length ≤ 62 := by rw [hL]; exact cA _
 have hmem : ∀ k, k < L.length → 0 ≤ L[k]! ∧ L[k]! < s.slots.length := fun k hk => by
  rw [hsl]; exact gK (by rw [← hL]; exact aN _ _ hk)
 refine aX Tryz.func140 Tryz.ntmps140 ?_
 repeat' (first|(apply aF;first|(apply aA (k := 158);rfl;exact hus;exact Pur.pf;rfl)|(apply aA (k := 120);rfl;(apply fO <;> (assumption));(rfl);rfl))|refine aE ?_|refine bI ?_|fail)
 rw [← hL]
 refine aH (σ := Nat) [0,3,26,27] [0,1,2,3] (fun k => [(28,iv (k : Int))]) (fun k => []) (fun k => k ≤ L.length ∧ ∀ j,j < k → s.slots[(L[j]!).toNat]!.set = true) (fun k => L.length - k) (0) ⟨Nat.zero_le _,fun j h => absurd h (by omega)⟩ ?_
 rintro k ⟨hk,hall⟩
 by_cases hkn : k < L.length
 ·have hmk := hmem k hkn
  repeat' (first|refine aE ?_|(refine aJ ?_ ?_ <;> intro hc hq <;> try (exfalso;omega))|fail)
  ·have hu : cG ts s x = true := (b8 htl).2 ⟨L[k]!, by rw [← hL]; exact aN _ _ hkn, by assumption⟩
   rw [uW hu]
   (refine aD rfl ?_; refine aT () trivial ?_ ⟨sE ?_,⟨sE ?_,⟨sE ?_,trivial⟩⟩⟩)
   ·rfl
   ·rfl
   ·rfl
   ·rfl
  ·(refine bC (k + 1) (Le.renA [(3, 3)]) ?_ ?_)
   ·refine ⟨by omega, fun j hj => ?_⟩
    rcases Nat.lt_or_ge j k with h|h
    ·exact hall j h
    ·rw [show j = k by omega]; assumption
   ·omega
 ·have hu : cG ts s x = false := by
   cases q : cG ts s x with
   | false => rfl
   | true =>
    obtain ⟨v,hv,hs⟩ := (b8 htl).1 q
    rw [← hL] at hv
    obtain ⟨j,hj,e⟩ := List.getElem_of_mem hv
    have h1 := hall j (by omega)
    rw [aS _ _ hj,e,hs] at h1;cases h1
  rw [qU hu]
  have hml := hm.l
  have hnc := Cq s.cells hm x.n
  by_cases h2 : s.cells.length = 200
  ·rw [if_neg (by omega)] at hnc
   have hd : c7 ts s x = (s,1) := by unfold c7;rw [if_neg (show ¬ x.op = 1 by omega),if_pos ho,if_pos h2]
   rw [hd]
   repeat' (first|(apply aF;(apply aA (k := 198);rfl;exact hnc;exact Pur.pf;rfl))|refine aE ?_|(refine aJ ?_ ?_ <;> intro hc hq <;> try (exfalso;omega))|refine bI ?_|fail)
   (refine aD rfl ?_; refine aT () trivial ?_ ⟨sE ?_,⟨sE ?_,⟨sE ?_,trivial⟩⟩⟩)
   ·rfl
   ·rfl
   ·rfl
   ·rfl
  ·rw [if_pos (by omega)] at hnc
   have hp := mM ts bd pts ⟨s.slots,s.cells ++ [uN x.n],s.read⟩ x.x ⟨true,0,⟨s.cells.length,0⟩⟩ (hm.nw hn (by omega)) hsl hx
   have hd : c7 ts s x = bT ts ⟨s.slots,s.cells ++ [uN x.n],s.read⟩ x.x.toNat ⟨true,0,⟨s.cells.length,0⟩⟩ := by unfold c7;rw [if_neg (show ¬ x.op = 1 by omega),if_pos ho,if_neg h2]
   rw [hd]
   repeat' (first|(apply aF;first|(apply aA (k := 198);rfl;exact hnc;exact Pur.pf;rfl)|(apply j8 (ts := ts) (bd := bd) (pts := pts) (s := ⟨s.slots,s.cells ++ [uN x.n],s.read⟩) (v := x.x) (y := ⟨true,0,⟨s.cells.length,0⟩⟩);rfl;rfl;rfl;rfl;rfl;rfl;rfl;exact hp;rfl;rfl))|refine aE ?_|(refine aJ ?_ ?_ <;> intro hc hq <;> try (exfalso;omega))|refine bI ?_|fail)
   (refine aD rfl ?_; refine aT () trivial ?_ ⟨sE ?_,⟨sE ?_,⟨sE ?_,trivial⟩⟩⟩)
   ·rfl
   ·rfl
   ·rfl
   ·rfl
theorem Ok (ts:List Int) (bd:List AL.Stmt) (pts:List Pnt) (s:Mc) (x:Pnt) (htl:ts.length ≤ 6) (hm:OkM s.cells) (hsl:s.slots.length = ts.length) (ho:x.op = 3) (hx:0 ≤ x.x ∧ x.x < ts.length) (hy:0 ≤ x.y ∧ x.y < ts.length):MC Tryz.prog 140 [.optr 0 0,dD x] [(0,some (mO ts bd pts 1 2 s)),(1,some (flat cT s.slots)),(2,some (flat cI s.read))] 3 (fun _:Unit => True) (fun _ => iv (dH ts s x).2) (fun _ => [(0,some (mO ts bd pts 1 2 (dH ts s x).1)),(1,some (flat cT (dH ts s x).1.slots)),(2,some (flat cI (dH ts s x).1.read))]):=by
 have hus := fR ts bd pts x htl
 have hsm : Sm (wS ts x [1,2,3]) := bR (by omega)
 obtain ⟨L,hL⟩ : ∃ L,L = a8 (wS ts x [1,2,3]) := ⟨_,rfl⟩
 have hLl : L.length ≤ 62 := by rw [hL]; exact cA _
 have hmem : ∀ k, k < L.length → 0 ≤ L[k]! ∧ L[k]! < s.slots.length := fun k hk => by
  rw [hsl]; exact gK (by rw [← hL]; exact aN _ _ hk)
 refine aX Tryz.func140 Tryz.ntmps140 ?_
 repeat' (first|(apply aF;first|(apply aA (k := 158);rfl;exact hus;exact Pur.pf;rfl)|(apply aA (k := 120);rfl;(apply fO <;> (assumption));(rfl);rfl))|refine aE ?_|refine bI ?_|fail)
 rw [← hL]
 refine aH (σ := Nat) [0,3,26,27] [0,1,2,3] (fun k => [(28,iv (k : Int))]) (fun k => []) (fun k => k ≤ L.length ∧ ∀ j,j < k → s.slots[(L[j]!).toNat]!.set = true) (fun k => L.length - k) (0) ⟨Nat.zero_le _,fun j h => absurd h (by omega)⟩ ?_
 rintro k ⟨hk,hall⟩
 by_cases hkn : k < L.length
 ·have hmk := hmem k hkn
  repeat' (first|refine aE ?_|(refine aJ ?_ ?_ <;> intro hc hq <;> try (exfalso;omega))|fail)
  ·have hu : cG ts s x = true := (b8 htl).2 ⟨L[k]!, by rw [← hL]; exact aN _ _ hkn, by assumption⟩
   rw [uW hu]
   (refine aD rfl ?_; refine aT () trivial ?_ ⟨sE ?_,⟨sE ?_,⟨sE ?_,trivial⟩⟩⟩)
   ·rfl
   ·rfl
   ·rfl
   ·rfl
  ·(refine bC (k + 1) (Le.renA [(3, 3)]) ?_ ?_)
   ·refine ⟨by omega, fun j hj => ?_⟩
    rcases Nat.lt_or_ge j k with h|h
    ·exact hall j h
    ·rw [show j = k by omega]; assumption
   ·omega
 ·have hu : cG ts s x = false := by
   cases q : cG ts s x with
   | false => rfl
   | true =>
    obtain ⟨v,hv,hs⟩ := (b8 htl).1 q
    rw [← hL] at hv
    obtain ⟨j,hj,e⟩ := List.getElem_of_mem hv
    have h1 := hall j (by omega)
    rw [aS _ _ hj,e,hs] at h1;cases h1
  rw [qU hu]
  have hd : c7 ts s x = bT ts (if zA ts[x.y.toNat]! = true then ⟨s.slots.set x.y.toNat mL,s.cells,s.read⟩ else s) x.x.toNat s.slots[x.y.toNat]! := by unfold c7;rw [if_neg (show ¬ x.op = 1 by omega),if_neg (show ¬ x.op = 2 by omega),if_pos ho]
  rw [hd]
  have htk := xB ts bd pts x.y hy
  by_cases hk : zA ts[x.y.toNat]! = true
  ·rw [hk] at htk
   rw [if_pos hk]
   have hp := mM ts bd pts ⟨s.slots.set x.y.toNat mL,s.cells,s.read⟩ x.x s.slots[x.y.toNat]! hm (by show (s.slots.set _ _).length = _; rw [List.length_set]; exact hsl) hx
   repeat' (first|(apply aF;first|(apply aA (k := 199);rfl;exact htk;exact Pur.pf;rfl)|(apply j8 (ts := ts) (bd := bd) (pts := pts) (s := ⟨s.slots.set x.y.toNat mL,s.cells,s.read⟩) (v := x.x) (y := s.slots[x.y.toNat]!);rfl;rfl;rfl;rfl;rfl;rfl;rfl;exact hp;rfl;rfl)|(apply bB;rfl;rfl;rfl;rfl;rfl;(case hl => (first|(rw [aI]; simp only [gB] <;> omega)|(simp;done)));(exact uX (by (omega)))))|refine aE ?_|(refine aJ ?_ ?_ <;> intro hc hq <;> try (exfalso;omega))|refine bI ?_|fail)
   (refine aD rfl ?_; refine aT () trivial ?_ ⟨sE ?_,⟨sE ?_,⟨sE ?_,trivial⟩⟩⟩)
   ·rfl
   ·rfl
   ·rfl
   ·rfl
  ·have hk2 : zA ts[x.y.toNat]! = false := by simpa using hk
   rw [hk2] at htk
   rw [if_neg hk]
   have hp := mM ts bd pts s x.x s.slots[x.y.toNat]! hm hsl hx
   repeat' (first|(apply aF;first|(apply aA (k := 199);rfl;exact htk;exact Pur.pf;rfl)|(apply j8 (ts := ts) (bd := bd) (pts := pts) (s := s) (v := x.x) (y := s.slots[x.y.toNat]!);rfl;rfl;rfl;rfl;rfl;rfl;rfl;exact hp;rfl;rfl))|refine aE ?_|(refine aJ ?_ ?_ <;> intro hc hq <;> try (exfalso;omega))|refine bI ?_|fail)
   (refine aD rfl ?_; refine aT () trivial ?_ ⟨sE ?_,⟨sE ?_,⟨sE ?_,trivial⟩⟩⟩)
   ·rfl
   ·rfl
   ·rfl
   ·rfl
end Go.Proofs.YtahdccneecdmmaaGreat
