/-
 A part of the proofs over this program: rules and contracts of its functions (the contracts).
-/
import Derived.Test.YtgkalkgplcdnkaaGreatW3B04
set_option linter.unusedVariables false
set_option linter.unusedSimpArgs false
set_option maxHeartbeats 8000000
set_option maxRecDepth 4000
attribute [local irreducible] Go.AL.RW Go.AL.AW Go.AL.Stop
namespace Go.Proofs.YtgkalkgplcdnkaaGreat
open Go Go.AL Go.RowKit
theorem pR {xs:List SX}{s:SX}{k:Nat}(hk:k ≤ xs.length):flat cT (cL k s xs) = (flat cT xs).take (k * 6) ++ flat cT [s] ++ (flat cT xs).drop (k * 6):=by
 unfold cL
 have e1 : (flat cT xs).take (k * 6) = flat cT (xs.take k) := eH cT (e := 6) xs k
 have e2 : (flat cT xs).drop (k * 6) = flat cT (xs.drop k) := eT cT (e := 6) xs k
 rw [e1,e2,bC,show s :: xs.drop k = [s] ++ xs.drop k from rfl,bC,List.append_assoc]
theorem Cc (xs:List SX) (s:SX) (k:Nat) (hk:k < xs.length) (hl:xs.length ≤ 1048576):MC Tryz.prog 59 [.own 0 0 xs.length 6,iv (k:Int),.own 1 0 1 6] [(0,some (flat cT xs)),(1,some (flat cT [s]))] 2 (fun _:Unit => True) (fun _ => .own 2 0 (xs.length + 1) 6)
  (fun _ => [(2,some (flat cT (cL k s xs)))]) := by
 intro C ι w vals hw hι g hr
 have hfl : (flat cT xs).length = xs.length * 6 := aK cT (e := 6) xs
 have hfs : (flat cT [s]).length = 6 := aK cT (e := 6) [s]
 have hle : k * 6 ≤ xs.length * 6 := Nat.mul_le_mul_right _ (by omega)
 simp only [RdV] at hr
 obtain ⟨y0,l,rfl,hy0,y1,l,rfl,hy1,y2,l,rfl,hy2,rfl⟩ := hr
 simp only [Rd] at hy0 hy1 hy2
 rcases hy0 with ⟨_,hn,_⟩ | ⟨b,β,c,hib,rfl,hnc,hcb⟩
 ·omega
 rcases hy2 with ⟨_,hn,_⟩ | ⟨vb,vβ,vc,hiv,rfl,hvc,hvb⟩
 ·omega
 subst hy1
 have hH0 : aP [(0,some (flat cT xs)),(1,some (flat cT [s]))] 0 = some (flat cT xs) := rfl
 have hH1 : aP [(0,some (flat cT xs)),(1,some (flat cT [s]))] 1 = some (flat cT [s]) := rfl
 generalize hHH : aP [(0,some (flat cT xs)),(1,some (flat cT [s]))] = H at *
 rcases g.obj 0 _ hH0 with ⟨q,_⟩ | ⟨b',β',arr,e,q1,hh,hsz,hrd,hX,hW⟩
 ·rw [q] at hib;cases hib
 rw [hib] at q1;cases q1
 rcases g.obj 1 _ hH1 with ⟨q,_⟩ | ⟨b2,β2,arr2,e2,q1,hh2,hsz2,hrd2,hX2,hW2⟩
 ·rw [q] at hiv;cases hiv
 rw [hiv] at q1;cases q1
 have hne : vb ≠ b := fun q => by
  subst q
  have := g.sep 1 0 _ _ _ _ _ hH1 hH0 hiv hib
  omega
 have hbz : lO w b = arr.size := by simp [lO,hh]
 rw [hbz] at hcb
 obtain ⟨lx,hx1,hx2⟩ := RdC.to_list hrd
 obtain ⟨ls,hs1,hs2⟩ := RdC.to_list hrd2
 have hxl := RdL.length hx1
 have hsl := RdL.length hs1
 have hfz : ∀ o,w.frozen? ⟨b,o,none⟩ = false := fun o => by unfold World.frozen?; rw [hh]; simp
 have hfv : ∀ o,w.frozen? ⟨vb,o,none⟩ = false := fun o => by unfold World.frozen?; rw [hh2]; simp
 have hcell : ∀ o, o < arr.size → (w.cell? ⟨b, o, none⟩).isSome = true := fun o ho => by
  unfold World.cell?; simp only [hh]; rw [Array.getElem?_eq_getElem ho]; rfl
 simp only [Nat.add_zero] at *
 have o1 := gB hx1
 have o2 := gB hs1
 by_cases hroom : xs.length + 1 ≤ c
 ·have hsp : (xs.length + 1) * 6 ≤ c * 6 := Nat.mul_le_mul_right _ hroom
  have hsa : w.shape? vb = some (e2,arr2.size) := by unfold World.shape?; rw [hh2]
  have hsb : w.shape? b = some (e,arr.size) := by unfold World.shape?; rw [hh]
  refine (sQ b β xs.length c k vb vβ vc lx ls w hk hroom hne hl (by omega) (by omega) hx2 (fun j hj => hcell _ (by omega)) (fun j hj => hfz _) hs2 o1 o2 _ _ _ _ hsa hsb (by omega) (hfv _) (hfv _)).mono ?_
  rintro e' w' ⟨rfl,rfl⟩
  obtain ⟨g1,c1⟩ := eG g
  have hx3 := RdL.carry c1 _ _ hx1
  have hs3 := RdL.carry c1 _ _ hs1
  have hh' : w.drew.heap[b]? = some (.cells arr e (0,0)) := hh
  have hdl : (lx.drop (k * 6)).length = xs.length * 6 - k * 6 := by rw [List.length_drop]; omega
  obtain ⟨g2,c2,arr',hh3,hs4⟩ := g1.extS Tryz.prog (off := (k + 1) * 6) hH0 hib hh' (by omega) (by rw [hdl]; omega) (jI (k * 6) hx3)
  have hs5 := RdL.carry c2 _ _ hs3
  obtain ⟨g3,c3⟩ := g2.mid Tryz.prog (off := k * 6) (upd_same _ _ _) hib (by rw [hfs,List.length_append,List.length_take,List.length_drop]; omega) hs5
  obtain ⟨g4,c4⟩ := g3.rename (id := 0) (id' := 2) (k := 0) (upd_same _ _ _) (by show 2 ≤ 2;omega) hib (Nat.zero_le _)
  refine ⟨_,.own 2 0 (xs.length + 1) 6,aP [(2,some (flat cT (cL k s xs)))],dA ι 2 (some (some (b,β + 0))),rfl,⟨(),trivial,rfl,fun id cs h => h⟩,?_,?_⟩
  ·simp only [Rd]
   have a1 := c1.bs b
   have a2 := c2.bs b
   have a3 := c3.bs b
   exact .inr ⟨b,β + 0,c,upd_same _ _ _,by simp,hroom,by omega⟩
  ·refine (g4.less (fun id cs h => ?_) (fun _ h => h.elim)).1
   obtain ⟨rfl,rfl⟩ := pC h
   rw [upd_same,List.drop_zero,A3 hfl hfs hk,pR (by omega)]
 ·have hdl : (lx.drop (k * 6)).length = xs.length * 6 - k * 6 := by rw [List.length_drop]; omega
  refine (vZ b β xs.length c k vb vβ vc lx ls w hk hnc (by omega) hl (by omega) (by omega) hx2 hs2 o1 o2).mono ?_
  rintro e' w' ⟨G,ROW,hG,hRs,hRc,rfl,rfl⟩
  have hsp : (xs.length + 1) * 6 ≤ G * 6 := Nat.mul_le_mul_right _ hG
  obtain ⟨ga, ca⟩ := g.alloc (id := 2) (by show 2 ≤ 2; omega) (arr := ROW) 76 (l := lx.take (k * 6)) (rest := ROW.toList.drop (k * 6)) (by
   have : ROW.toList.take (k * 6) = lx.take (k * 6) := by
    apply List.ext_getElem?
    intro j
    rw [List.getElem?_take,List.getElem?_take]
    split
    ·rename_i hj
     have hv : lx[j]? = some lx[j] := List.getElem?_eq_getElem (by omega)
     have := hRc j _ hj hv
     rw [hv,← this]; simp
    ·rfl
   rw [← this,List.take_append_drop]) (mW (k * 6) hx1)
  have hh0 : (w.alloc (.cells ROW 76)).heap[w.heap.size]? = some (.cells ROW 76 (0,0)) := heap_alloc_new w _
  obtain ⟨gb,cb⟩ := eG ga
  have hxb := RdL.carry cb _ _ (RdL.carry ca _ _ hx1)
  have hsb := RdL.carry cb _ _ (RdL.carry ca _ _ hs1)
  have hh1 : (w.alloc (.cells ROW 76)).drew.heap[w.heap.size]? = some (.cells ROW 76 (0,0)) := hh0
  have ht1 : ((flat cT xs).take (k * 6)).length = k * 6 := by rw [List.length_take]; omega
  obtain ⟨gc,cc,arr3,hh3,hs3⟩ := gb.extS Tryz.prog (id := 2) (off := k * 6) (upd_same _ _ _) (upd_same _ _ _) hh1 (by omega) (by omega) hsb
  rw [Nat.zero_add] at gc cc hh3
  obtain ⟨gd,cd⟩ := eG gc
  have hxd := RdL.carry cd _ _ (RdL.carry cc _ _ hxb)
  obtain ⟨ge,ce,arr4,hh4,hs4⟩ := gd.extS Tryz.prog (id := 2) (off := (k + 1) * 6) (upd_same _ _ _) (upd_same _ _ _) (arr := arr3) (e := 76) hh3 (by rw [List.length_append,List.length_take]; omega) (by rw [hdl]; omega) (jI (k * 6) hxd)
  rw [Nat.zero_add] at ge ce hh4
  refine ⟨_,.own 2 0 (xs.length + 1) 6,aP [(2,some (flat cT (cL k s xs)))],_,rfl,⟨(),trivial,rfl,fun id cs h => h⟩,?_,(ge.less (fun id cs h => ?_) (fun _ h => h.elim)).1⟩
  ·simp only [Rd]
   refine .inr ⟨w.heap.size,0,G,upd_same _ _ _,by simp,hG,?_⟩
   unfold lO;rw [hh4]
   show 0 + 0 + G * 6 ≤ arr4.size
   omega
  ·obtain ⟨rfl, rfl⟩ := pC h
   rw [upd_same,pR (by omega),List.take_take,Nat.min_self,List.take_of_length_le (by rw [List.length_append]; omega)]
theorem CJ (xs:List SX) (s:SX) (hl:xs.length ≤ 1048576):MC Tryz.prog 59 [.own 0 0 xs.length 6,iv (xs.length:Int),.own 1 0 1 6] [(0,some (flat cT xs)),(1,some (flat cT [s]))] 2 (fun _:Unit => True) (fun _ => .own 2 0 (xs.length + 1) 6)
  (fun _ => [(2,some (flat cT (cL xs.length s xs)))]) := by
 have e : flat cT (cL xs.length s xs) = flat cT xs ++ flat cT [s] := by
  unfold cL;rw [List.take_length,List.drop_length,bC]
 rw [e]
 have h1 : (flat cT xs).length = xs.length * 6 := aK cT (e := 6) xs
 have h2 : (flat cT [s]).length = 6 := aK cT (e := 6) [s]
 refine c8 Tryz.func59 Tryz.ntmps59 ?_
 repeat' (first|(apply aH;first|(apply kM (d := 12) (l := xs.length) (h := xs.length);rfl;rfl;exact tJ rfl (by omega);rfl;exact if_pos (by omega);rfl)|(apply cY (d := 25) (new := flat cT [s]) (cs' := flat cT xs ++ flat cT [s]);rfl;rfl;rfl;rfl;rfl;omega;exact uV rfl h2;omega;omega;(rw [List.drop_zero,List.take_of_length_le (by omega)]);rfl;rfl))|refine aF ?_|(refine aU ?_ ?_ <;> intro hc hq <;> try (exfalso;omega))|fail)
 ·(refine aO rfl ?_; refine eS () trivial ?_ ⟨sE ?_, trivial⟩)
  ·rfl
  ·rfl
 ·exfalso;exact (by assumption : ¬ True) trivial
theorem FN {xs:List SX}{s:SX}{m k:Nat}{N:Nat}{Q:Exit → AS → Prop}{all:Array Oper}{rest:List Oper}{tsl:List (Nat × AV)}{hsl:List (Nat × Option (List AV))}{nidl:Nat}{z0:Lo}{md:Md}{d:Nat}{ty:TypeId}{pos:String}{af:Array Edge}{tys:Array TypeId}{x0 x1 x2:Operand}{i0 i1:Nat}(ha0:ev (lk tsl) x0 = some (.own i0 0 m 6)) (ha1:ev (lk tsl) x1 = some (iv (k:Int))) (ha2:ev (lk tsl) x2 = some (.own i1 0 1 6)) (hH0:aP hsl i0 = some (flat cT xs)) (hH1:aP hsl i1 = some (flat cT [s])) (hdd:Go.AL.distinct [i0,i1] = true) (hmc:MC Tryz.prog 59 [.own 0 0 m 6,iv (k:Int),.own 1 0 1 6] [(0,some (flat cT xs)),(1,some (flat cT [s]))] 2 (fun _:Unit => True) (fun _ => .own 2 0 (m + 1) 6) (fun _ => [(2,some (flat cT (cL k s xs)))])) (hM:Nat.ble (nidl + 1) aX = true) (hN:Nat.blt d N = true){md':Md}[hmd:MdA md (jS [x0,x1,x2] ++ [.inr i0,.inr i1]) (List.map Sum.inr (List.map Prod.fst ([(nidl,some (flat cT (cL k s xs))),(i0,none),(i1,none)]:List (Nat × Option (List AV)))) ++ [.inl d]) md'] (kk:RW Tryz.prog N all Q md' rest ⟨(d,.own nidl 0 (m + 1) 6) :: tsl,mY hsl [(nidl,some (flat cT (cL k s xs))),(i0,none),(i1,none)],nidl + 1,z0⟩):RW Tryz.prog N all Q md (⟨some d,.call ⟨.value (.func 59),#[x0,x1,x2],tys⟩,ty,pos,af,none⟩ :: rest) ⟨tsl,hsl,nidl,z0⟩:=by
 exact cG (l := [x0,x1,x2]) [i0,i1] 3 [(nidl,some (flat cT (cL k s xs))),(i0,none),(i1,none)] hmc (avs := [.own i0 0 m 6,iv (k : Int),.own i1 0 1 6]) (by simp only [evL,ha0,ha1,ha2]) hdd hM hN (md' := md') (hmd := hmd) kk
theorem F7 (xs:List SX) (s:SX) (m k:Nat) (hm:m = xs.length) (hk:k ≤ m) (hl:m ≤ 1048576):MC Tryz.prog 59 [.own 0 0 m 6,iv (k:Int),.own 1 0 1 6] [(0,some (flat cT xs)),(1,some (flat cT [s]))] 2 (fun _:Unit => True) (fun _ => .own 2 0 (m + 1) 6) (fun _ => [(2,some (flat cT (cL k s xs)))]):=by
 subst hm
 rcases Nat.lt_or_ge k xs.length with h|h
 ·exact Cc xs s k h hl
 ·have e : k = xs.length := by omega
  subst e
  exact CJ xs s hl
theorem pI (a b:List SX):dU (a ++ b) = dU a ++ dU b := by unfold dU;rw [List.flatMap_append]
end Go.Proofs.YtgkalkgplcdnkaaGreat
namespace Go.Proofs.YtgkalkgplcdnkaaGreat
open Go.AL Go.ChangeShapes Go.WideShapes Go.ChangeAt Go.RowKit
theorem tI {P:Program}{k:FuncId}{avs:List AV}(h:oY P k avs (fun r E => r = bv true)){W:World}{vs:List Value}(hv:RdV W (fun _ => False) (fun _ => none) avs vs) :
  Calls P k vs.toArray W fun e W' => e = .returned (.bool true) ∧ Below W.heap.size W W' := by
 refine (h W (fun _ => False) vs (fun _ q => q.elim) hv).mono ?_
 rintro e W' ⟨v,r,E,rfl,rfl,_,h4,f,_,_⟩
 simp only [Rd] at h4
 subst h4
 exact ⟨rfl,f.os,f.tape,f.output,f.size,fun b hb => f.block b hb (fun h => h)⟩
theorem E5 {P:Program}{k:FuncId}{avs:List AV}(h:PC P k avs (fun r => r = bv true)):oY P k avs (fun r E => r = bv true):=by
 intro w bad vals hb hv
 refine (dR h rfl w bad vals hb hv).mono ?_
 rintro e w' ⟨v,r,E,h1,⟨h2,_⟩,h3⟩
 exact ⟨v,r,E,h1,h2,h3⟩
end Go.Proofs.YtgkalkgplcdnkaaGreat
namespace Go.Proofs.YtgkalkgplcdnkaaGreat
open Go.AL Go.RowKit
def Cy (q : Prg) (b : Bool) (r : AV) (E : dF) : Prop := ∃ a4 c4 B4 a5 c5 B5,r = .tup [.agg [.v (.slice a4 q.types.length c4),.v (.slice a5 q.body.length c5)],bv b] ∧ E = [(.ints q.types,.slice a4 q.types.length c4,B4),(.stms q.body,.slice a5 q.body.length c5,B5)]
theorem nI {P:Program}{res:Array ResultVar}{s:AS}{E:dF}{l:List AV}(hr:iX P (lk s.ts) (aP s.hs) res.toList = some l) (e:aQ l = .tup [.agg [.v (.slice none 0 0),.v (.slice none 0 0)],bv false]):Ar P res (Cy ⟨[],[]⟩ false) .ret s E :=
 Gu hr e rfl (E' := [(.ints [], .slice none 0 0, []), (.stms [], .slice none 0 0, [])]) (fun w => ⟨fun t ht => by
  simp only [List.mem_cons,List.not_mem_nil,or_false] at ht
  rcases ht with rfl|rfl
  ·simp only [TrX]; exact .nil
  ·simp only [TrX]; exact .nil,by simp [bl]⟩) rfl ⟨none,0,[],none,0,[],rfl,rfl⟩
theorem HH {p:Prg}(hv:bE p = true) (f:Flows p.types (aE p)) (v:Nat):(f.Aa[0]!).testBit v = false:=by
 cases hb : (f.Aa[0]!).testBit v with
 | false => rfl
 | true =>
  have h0 := (WG.of_valid hv).p0
  have := (f.ga.2 0 h0 v).1 hb
  exact absurd (.base ⟨this.1,.inl rfl⟩) this.2
def Gl (v : Int) : SX := (iW v,(.slice none 0 0,[]),(.slice none 0 0,[]))
theorem wP (xs:List SX) (k:Nat) (v:Int):dU (cL k (Gl v) xs) = dU (xs.take k) ++ ([(.stms [],.slice none 0 0,[]),(.stms [],.slice none 0 0,[])] ++ dU (xs.drop k)):=by
 unfold cL
 rw [pI,show Gl v :: xs.drop k = [Gl v] ++ xs.drop k from rfl,pI]; rfl
theorem Bm (xs:List SX) (k:Nat) (v:Int):bl (dU (cL k (Gl v) xs)) = bl (dU xs):=by
 have e : dU xs = dU (xs.take k) ++ dU (xs.drop k) := by rw [← pI,List.take_append_drop]
 rw [wP,e,cS,jW]; rfl
theorem Ib (xs:List SX) (k:Nat) (v:Int):∀ b,b ∈ bl (dU (cL k (Gl v) xs)) → b ∈ bl (dU xs) := fun b hb => by rw [Bm] at hb;exact hb
theorem Hn (xs:List SX) (k:Nat) (v:Int):∀ w,TrE (dU xs) w → TrE (dU (cL k (Gl v) xs)) w:=by
 intro w h
 refine ⟨fun t ht => ?_,by rw [Bm]; exact h.nd⟩
 have e : dU xs = dU (xs.take k) ++ dU (xs.drop k) := by rw [← pI,List.take_append_drop]
 rw [wP,List.mem_append,List.mem_append] at ht
 rcases ht with ht|ht|ht
 ·exact h.t t (by rw [e]; exact List.mem_append.2 (.inl ht))
 ·simp only [List.mem_cons, List.not_mem_nil, or_false, or_self] at ht
  subst ht;simp only [TrX]; exact .nil
 ·exact h.t t (by rw [e]; exact List.mem_append.2 (.inr ht))
theorem EU (xs:List SX) (k:Nat) (x:SX):(cL k x xs).map (·.1) = cL k x.1 (xs.map (·.1)):=by
 unfold cL;rw [List.map_append,List.map_cons,List.map_take,List.map_drop]
theorem HJ (p:Prg) (k v:Int) (hv:bE p = false) (hl:p.types.length ≤ 1048576) (hs:aI p.body ≤ 1048576):oY Tryz.prog 20 [bY p,iv k,iv v] (Cy ⟨[],[]⟩ false):=by
 have hval := fC p hl (by omega)
 rw [hv] at hval
 (refine cC Tryz.func20 rfl (by simp [Tryz.ntmps20]) ?_; rw [Tryz.ntmps20])
 refine awt_lift ?_
 repeat' (first|(apply aH;first|(apply aA (k := 45);rfl;exact hval;exact Pur.pf;rfl)|(apply b6 (d := 37);rfl;exact (rfl:_=some [_,_]);rfl))|refine aF ?_|refine dC ?_|fail)
 exact nI rfl rfl
theorem GH (p:Prg) (k v:Int) (hv:bE p = true) (f:Flows p.types (aE p)) (hN:¬ (0 ≤ k ∧ mK p f k.toNat v)):oY Tryz.prog 20 [bY p,iv k,iv v] (Cy ⟨[],[]⟩ false):=by
 obtain ⟨t1,t2,t3⟩ := gE hv
 have htl := dH t1
 have hlen := bR p.body
 have hval := fC p (by omega) (by omega)
 rw [hv] at hval
 by_cases h : 0 ≤ k ∧ k ≤ p.body.length
 ·obtain ⟨k, rfl⟩ : ∃ j : Nat, k = j := ⟨k.toNat, by omega⟩
  have hfp := j1 p k (by omega) (by omega)
  have hpl := fB p
  have hnp := fX p.body k
  have has := jV p (b8 (p.body.take k) : Int) f (by omega) (by omega) ⟨hv,by omega,by omega⟩
  rw [Int.toNat_natCast] at has hN
  by_cases ht : eK p.types v = 2
  ·have hv0 := (fR t1 v).1 (by omega)
   have hsm : f.Aa[b8 (p.body.take k)]! < 2 ^ 62 := Nat.lt_of_lt_of_le ((f.bnd (WG.of_valid hv)).bA (b8 (p.body.take k))) (Nat.pow_le_pow_right (by decide) (by omega))
   have hct := qL f.Aa[b8 (p.body.take k)]! v (by omega) hsm
   have hb : (f.Aa[b8 (p.body.take k)]!).testBit v.toNat = false := by
    cases hb : (f.Aa[b8 (p.body.take k)]!).testBit v.toNat with
    | false => rfl
    | true => exact absurd ⟨by omega,by unfold mK;exact ⟨by omega,ht,hb⟩⟩ hN
   rw [hb] at hct
   (refine cC Tryz.func20 rfl (by simp [Tryz.ntmps20]) ?_; rw [Tryz.ntmps20])
   refine awt_lift ?_
   repeat' (first|(apply aH;first|(apply aA (k := 45);rfl;exact hval;exact Pur.pf;rfl)|(apply aA (k := 48);rfl;exact hfp;exact Pur.pf;rfl)|(apply aA (k := 58);rfl;exact has;exact Pur.pf;rfl)|(apply aA (k := 57);rfl;exact hct;exact Pur.pf;rfl)|(apply b6 (d := 37);rfl;exact (rfl:_=some [_,_]);rfl)|(first|(apply aA (k := 55);rfl;(apply dZ);(rfl);rfl)|(apply aA (k := 56);rfl;(apply jM <;> (omega));exact Pur.pf;rfl)))|refine aF ?_|(refine cE ?_ ?_ <;> intro hg hq <;> try (exfalso;omega))|refine dC ?_|fail)
   exact nI rfl rfl
  ·(refine cC Tryz.func20 rfl (by simp [Tryz.ntmps20]) ?_; rw [Tryz.ntmps20])
   refine awt_lift ?_
   repeat' (first|(apply aH;first|(apply aA (k := 45);rfl;exact hval;exact Pur.pf;rfl)|(apply b6 (d := 37);rfl;exact (rfl:_=some [_,_]);rfl)|(first|(apply aA (k := 55);rfl;(apply dZ);(rfl);rfl)|(apply aA (k := 56);rfl;(apply jM <;> (omega));exact Pur.pf;rfl)))|refine aF ?_|(refine cE ?_ ?_ <;> intro hg hq <;> try (exfalso;omega))|refine dC ?_|fail)
   exact nI rfl rfl
 ·(refine cC Tryz.func20 rfl (by simp [Tryz.ntmps20]) ?_; rw [Tryz.ntmps20])
  refine awt_lift ?_
  repeat' (first|(apply aH;first|(apply aA (k := 45);rfl;exact hval;exact Pur.pf;rfl)|(apply b6 (d := 37);rfl;exact (rfl:_=some [_,_]);rfl)|(apply aA (k := 55);rfl;(apply dZ);(rfl);rfl))|refine aF ?_|(refine cE ?_ ?_ <;> intro hg hq <;> try (exfalso;omega))|refine dC ?_|fail)
  all_goals first
   | exact nI rfl rfl
   | (exfalso;omega)
theorem HO (p:Prg) (k:Nat) (v:Int) (hv:bE p = true) (f:Flows p.types (aE p)) (hA:mK p f k v):oY Tryz.prog 20 [bY p,iv (k:Int),iv v] (fun r E => if oW (iC p k v) = true then Cy (iC p k v) true r E else Cy ⟨[],[]⟩ false r E):=by
 obtain ⟨t1,t2,t3⟩ := gE hv
 have htl := dH t1
 have hlen := bR p.body
 have hval := fC p (by omega) (by omega)
 rw [hv] at hval
 have ho := Ip p (by omega) (by omega)
 obtain ⟨hkl,ht,hb⟩ := hA
 have hk1 : 0 < k := by
  rcases Nat.eq_zero_or_pos k with h0|h0
  ·subst h0
   rw [show b8 (p.body.take 0) = 0 from rfl,HH hv f] at hb;cases hb
  ·exact h0
 have hfp := j1 p k (by omega) (by omega)
 have hpl := fB p
 have hnp := fX p.body k
 have has := jV p (b8 (p.body.take k) : Int) f (by omega) (by omega) ⟨hv,by omega,by omega⟩
 rw [Int.toNat_natCast] at has
 have hci := mZ p.body k v
 have hac := Fo (iC p k v) (by show p.types.length ≤ _; omega) (by show aI (cL k (iW v) p.body) ≤ _; omega)
 have hv0 := (fR t1 v).1 (by omega)
 have hsm : f.Aa[b8 (p.body.take k)]! < 2 ^ 62 := Nat.lt_of_lt_of_le ((f.bnd (WG.of_valid hv)).bA (b8 (p.body.take k))) (Nat.pow_le_pow_right (by decide) (by omega))
 have hct := qL f.Aa[b8 (p.body.take k)]! v (by omega) hsm
 rw [hb] at hct
 (refine cC Tryz.func20 rfl (by simp [Tryz.ntmps20]) ?_; rw [Tryz.ntmps20])
 refine aR (awt_lift ?_)
 repeat' (first|refine aF ?_|fail)
 show cQ _ _ _ _ _ _
 refine aR (awt_lift ?_)
 repeat' (first|(apply aH;first|(apply aA (k := 45);rfl;exact hval;exact Pur.pf;rfl)|(apply aA (k := 48);rfl;exact hfp;exact Pur.pf;rfl)|(apply aA (k := 58);rfl;exact has;exact Pur.pf;rfl)|(apply aA (k := 57);rfl;exact hct;exact Pur.pf;rfl)|(first|(apply aA (k := 55);rfl;(apply dZ);(rfl);rfl)|(apply aA (k := 56);rfl;(apply jM <;> (omega));exact Pur.pf;rfl)))|refine aF ?_|(refine cE ?_ ?_ <;> intro hg hq <;> try (exfalso;omega))|refine dC ?_|fail)
 show cQ _ _ _ _ _ _
 refine aR (bG ?_)
 refine aV (l1 := [_]) ?_
 repeat' (first|refine aM ?_|fail)
 refine ⟨rfl,?_⟩
 refine aN rfl (.cons (.pur PurV.pf) .nil) ho rfl ?_
 rintro _ _ ⟨a4,d4,B4,a5,d5,B5,rfl,rfl⟩
 refine aV (l1 := [_,_]) (l2 := []) ?_
 repeat' (first|refine aM ?_|fail)
 refine ⟨rfl,aJ ?_⟩
 show cQ _ _ _ _ _ _
 refine aR (bG ?_)
 refine aV (l1 := [_,_]) ?_
 repeat' (first|refine aM ?_|fail)
 refine ⟨rfl,?_⟩
 refine HN [(.ints p.types,.slice a4 p.types.length d4,B4)] [] 41 rfl rfl (by omega) (by decide) ?_
 intro xs hx1 hx2
 refine aV (l1 := [_,_,_,_]) ?_
 repeat' (first|(apply aH;(apply b6 (d := 44);rfl;exact (rfl:_=some [_,_,_,_,_,_]);rfl))|refine aM ?_|fail)
 refine ⟨rfl,?_⟩
 refine aV (l1 := [_]) ?_
 repeat' (first|(apply aH;(apply FN (xs := xs) (s := Gl v) (k := k);rfl;rfl;rfl;rfl;rfl;rfl;(apply F7 <;> (omega));rfl;rfl))|refine aM ?_|fail)
 refine ⟨rfl,?_⟩
 refine Hr [(.ints p.types,.slice a4 p.types.length d4,B4)] (dU xs) [] (ys := cL k (Gl v) xs) 46 rfl rfl rfl ?_ (Hn xs k v) (Ib xs k v) ?_
 ·rw [m8]; omega
 intro a6 d6 B6
 rw [EU,hx1,show (Gl v).1 = iW v from rfl]
 refine aV (l1 := [_,_]) (l2 := []) ?_
 repeat' (first|refine aM ?_|fail)
 refine ⟨rfl,aJ ?_⟩
 have hil : (cL k (iW v) p.body).length = p.body.length + 1 := m8
 rw [← hil]
 show cQ _ _ _ _ _ _
 refine aR (aR (bG ?_))
 refine aV (l1 := [_]) ?_
 repeat' (first|refine aM ?_|fail)
 refine ⟨rfl,?_⟩
 refine aN rfl (.cons (.agg (.cons (.tree (t := .ints p.types) (B := B4) (by simp)) (.cons (.tree (t := .stms (cL k (iW v) p.body)) (B := B6) (by simp)) .nil))) .nil) (dR hac rfl) rfl ?_
 rintro _ _ ⟨rfl,rfl⟩
 rw [List.append_nil]
 refine aV (l1 := [_]) (l2 := []) ?_
 repeat' (first|refine aM ?_|fail)
 refine ⟨rfl,aJ ?_⟩
 show cQ _ _ _ _ _ _
 cases hacc : oW (iC p k v) with
 | false =>
  refine gF rfl (fun hb => ?_) (fun hb => by simp [hacc] at hb)
  show cQ _ _ _ _ _ _
  refine awt_lift ?_
  repeat' (first|(apply aH;(apply b6 (d := 51);rfl;exact (rfl:_=some [_,_]);rfl))|refine aF ?_|fail)
  exact nI rfl rfl
 | true =>
  refine gF rfl (fun hb => by simp [hacc] at hb) (fun hb => iI ?_)
  show cQ _ _ _ _ _ _
  refine awt_lift ?_
  repeat' (first|refine aF ?_|fail)
  exact mU (l := [.agg [.v (.slice a4 p.types.length d4),.v (.slice a6 (cL k (iW v) p.body).length d6)],bv true]) rfl rfl rfl ⟨a4,d4,B4,a6,d6,B6,rfl,rfl⟩
theorem EF (p:Prg) (k v:Int) (hl:p.types.length ≤ 1048576) (hs:aI p.body ≤ 1048576):∃ (Q:Prg) (b:Bool),oY Tryz.prog 20 [bY p,iv k,iv v] (Cy Q b) ∧ PC Tryz.prog 20 [bY p,iv k,iv v] (fun r => r = .tup [bY Q,bv b]) ∧
  PC Tryz.prog 19 [bY p,iv k,iv v] (fun r => r = .tup [bY Q,bv b]) ∧ Q.types.length ≤ 1048576 ∧ aI Q.body ≤ 1048576 := by
 cases hv : bE p with
 | false => exact ⟨⟨[],[]⟩,false,HJ p k v hv hl hs,Ht p k v hv hl hs,HL p k v hv hl hs,by simp,by simp [aI]⟩
 | true =>
  obtain ⟨f⟩ := Flows.ex (WG.of_valid hv)
  have hI := Iv p k v hv f
  have hS := IU p k v hv f
  obtain ⟨t1,t2,t3⟩ := gE hv
  have htl := dH t1
  by_cases hN : 0 ≤ k ∧ mK p f k.toNat v
  ·obtain ⟨k, rfl⟩ : ∃ j : Nat, k = j := ⟨k.toNat, by omega⟩
   have hA := hN.2
   rw [Int.toNat_natCast] at hA
   have hT := HO p k v hv f hA
   have hci := mZ p.body k v
   cases hacc : oW (iC p k v) with
   | true =>
    have e : fO p f k v = some (iC p k v) := by unfold fO;rw [if_pos ⟨hN.1,hN.2,by rw [Int.toNat_natCast]; exact hacc⟩,Int.toNat_natCast]
    rw [e] at hI hS
    simp only [hacc,if_true] at hT
    exact ⟨iC p k v,true,hT,hI,hS,hl,by show aI (cL k (iW v) p.body) ≤ _; omega⟩
   | false =>
    have e : fO p f k v = none := by unfold fO;rw [if_neg]; rintro ⟨_,_,h3⟩; rw [Int.toNat_natCast] at h3;rw [hacc] at h3;cases h3
    rw [e] at hI hS
    rw [hacc] at hT
    exact ⟨⟨[],[]⟩,false,by simpa using hT,hI,hS,by simp,by simp [aI]⟩
  ·have e : fO p f k v = none := by unfold fO; rw [if_neg]; rintro ⟨h1, h2, _⟩; exact hN ⟨h1, h2⟩
   rw [e] at hI hS
   exact ⟨⟨[],[]⟩,false,GH p k v hv f hN,hI,hS,by simp,by simp [aI]⟩
theorem tP (p:Prg) (k v:Int) (hl:p.types.length ≤ 1048576) (hs:aI p.body ≤ 1048576) (hln:Dr p.body) (q:((p.types.length + aI p.body:Nat):Int) ≤ 1048576):oY Tryz.prog 5 [bY p,iv k,iv v] (fun r E => r = bv true):=by
 have c0 := oU p 1048576 (by decide) (by decide) (by omega) hln
 rw [l3 q] at c0
 have h1 := vU p hl hs
 have h1t := wT p hl hs
 have h2 := oR p hl hs
 obtain ⟨Q,ok,h3t,h3,h4,hQl,hQs⟩ := EF p k v hl hs
 have h5 := oR Q hQl hQs
 have h6 := rF Q.types.length Q.body 1 (by omega) (by omega) (by decide) (by decide) hQs
 (refine cC Tryz.func5 rfl (by simp [Tryz.ntmps5]) ?_; rw [Tryz.ntmps5])
 iterate 4
  refine aR (awt_lift ?_)
  repeat' (first|(apply aH;(apply aA (k := 7);rfl;exact c0;exact Pur.pf;rfl))|refine aF ?_|(refine aU ?_ ?_ <;> intro hc hq <;> try (exfalso;omega))|fail)
  show cQ _ _ _ _ _ _
 refine aR (awt_lift ?_)
 repeat' (first|(apply aH;first|(apply aA (k := 9);rfl;exact h1;exact Pur.pf;rfl)|(apply aA (k := 19);rfl;exact h4;exact Pur.pf;rfl))|refine aF ?_|fail)
 show cQ _ _ _ _ _ _
 refine aR (bG ?_)
 refine aV (l1 := [_]) ?_
 repeat' (first|refine aM ?_|fail)
 refine ⟨rfl,?_⟩
 refine aN rfl (.cons (.pur PurV.pf) .nil) h1t rfl ?_
 rintro _ _ ⟨a4,d4,B4,a5,d5,B5,rfl,rfl⟩
 refine aV (l1 := [_,_]) (l2 := []) ?_
 repeat' (first|refine aM ?_|fail)
 refine ⟨rfl,aJ ?_⟩
 show cQ _ _ _ _ _ _
 refine aR (bG ?_)
 refine aV (l1 := [_,_,_]) ?_
 repeat' (first|refine aM ?_|fail)
 refine ⟨rfl,?_⟩
 refine aN rfl (.cons (.agg (.cons (.tree (t := .ints p.types) (B := B4) (by simp)) (.cons (.tree (t := .stms p.body) (B := B5) (by simp)) .nil))) (.cons (.pur PurV.pf) (.cons (.pur PurV.pf) .nil))) h3t rfl ?_
 rintro _ _ ⟨a6,d6,B6,a7,d7,B7,rfl,rfl⟩
 refine aV (l1 := [_,_,_,_,_,_]) (l2 := []) ?_
 repeat' (first|refine aM ?_|fail)
 refine ⟨rfl,aJ ?_⟩
 show cQ _ _ _ _ _ _
 refine aR (aR (bG ?_))
 refine aV (l1 := [_,_]) ?_
 repeat' (first|refine aM ?_|fail)
 refine ⟨rfl,?_⟩
 refine aN rfl (.cons (.agg (.cons (.tree (t := .ints Q.types) (B := B6) (by simp)) (.cons (.tree (t := .stms Q.body) (B := B7) (by simp)) .nil))) (.cons (.pur PurV.pf) .nil)) (dR h5 rfl) rfl ?_
 rintro _ _ ⟨rfl,rfl⟩
 rw [List.append_nil]
 refine aV (l1 := [_,_,_,_,_,_]) (l2 := []) ?_
 repeat' (first|refine aM ?_|fail)
 refine ⟨rfl,aJ ?_⟩
 show cQ _ _ _ _ _ _
 refine gF rfl (fun hb => by simp at hb) (fun _ => iI ?_)
 show cQ _ _ _ _ _ _
 refine aR (qU (σ := Unit) [1,2,3,6,8,9,10,11,12] [(1,_),(2,_),(3,_),(6,_),(8,_),(9,_),(10,_),(11,_),(12,_)] [0,1,2,3] [(0,some _),(1,some _),(2,some _),(3,some _)] 4 (fun y => [(53,bv false)]) (fun y => []) (fun y => [(.ints p.types,.slice a4 p.types.length d4,B4),(.stms p.body,.slice a5 p.body.length d5,B5),(.ints Q.types,.slice a6 Q.types.length d6,B6),(.stms Q.body,.slice a7 Q.body.length d7,B7)]) rfl rfl (tO (by kernel_rfl) ?_) ?_)
 ·refine kC (i := 0) (i' := 1) (o := ⟨_, _, _, _, _, _⟩) (o' := ⟨_, _, _, _, _, _⟩) (by kernel_rfl) rfl rfl ?_ ?_
  ·repeat' (first|refine aM ?_|fail)
   refine ⟨rfl,?_⟩
   refine aS (i := 1) (o := ⟨_,_,_,_,_,_⟩) (by kernel_rfl) rfl ?_
   repeat' (first|refine aM ?_|fail)
   refine ⟨rfl,?_⟩
   refine aS (i := 2) (o := ⟨_,_,_,_,_,_⟩) (by kernel_rfl) rfl ?_
   repeat' (first|(apply aH;(apply aA (k := 9);rfl;exact h1;exact Pur.pf;rfl))|refine aM ?_|fail)
   refine ⟨rfl,?_⟩
   refine dV (i := 3) (o := ⟨_,_,_,_,_,_⟩) (by kernel_rfl) rfl ?_
   refine aN rfl (.cons (.agg (.cons (.tree (t := .ints p.types) (B := B4) (by simp)) (.cons (.tree (t := .stms p.body) (B := B5) (by simp)) .nil))) (.cons (.pur PurV.pf) .nil)) (dR h2 rfl) rfl ?_
   rintro _ _ ⟨rfl,rfl⟩
   rw [List.append_nil]
   refine aJ ⟨rfl,?_⟩
   refine aS (i := 4) (o := ⟨_,_,_,_,_,_⟩) (by kernel_rfl) rfl ?_
   repeat' (first|refine aM ?_|fail)
   refine ⟨rfl,?_⟩
   refine eJ ⟨(),?_,rfl⟩ (by kernel_rfl)
   exact lX
  ·repeat' (first|refine aM ?_|fail)
   refine ⟨rfl,?_⟩
   refine kC (i := 0) (i' := 2) (o := ⟨_,_,_,_,_,_⟩) (o' := ⟨_,_,_,_,_,_⟩) (by kernel_rfl) rfl rfl ?_ ?_
   ·repeat' (first|refine aM ?_|fail)
    refine ⟨rfl,?_⟩
    refine aS (i := 2) (o := ⟨_,_,_,_,_,_⟩) (by kernel_rfl) rfl ?_
    repeat' (first|(apply aH;(apply aA (k := 9);rfl;exact h1;exact Pur.pf;rfl))|refine aM ?_|fail)
    refine ⟨rfl,?_⟩
    refine dV (i := 3) (o := ⟨_,_,_,_,_,_⟩) (by kernel_rfl) rfl ?_
    refine aN rfl (.cons (.agg (.cons (.tree (t := .ints p.types) (B := B4) (by simp)) (.cons (.tree (t := .stms p.body) (B := B5) (by simp)) .nil))) (.cons (.pur PurV.pf) .nil)) (dR h2 rfl) rfl ?_
    rintro _ _ ⟨rfl,rfl⟩
    rw [List.append_nil]
    refine aJ ⟨rfl,?_⟩
    refine aS (i := 4) (o := ⟨_,_,_,_,_,_⟩) (by kernel_rfl) rfl ?_
    repeat' (first|refine aM ?_|fail)
    refine ⟨rfl,?_⟩
    refine eJ ⟨(),?_,rfl⟩ (by kernel_rfl)
    exact lX
   ·repeat' (first | (apply aH; (apply aA (k := 9);rfl;exact h1;exact Pur.pf;rfl)) | refine aM ?_|fail)
    refine ⟨rfl,?_⟩
    refine aS (i := 0) (o := ⟨_,_,_,_,_,_⟩) (by kernel_rfl) rfl ?_
    repeat' (first|refine aM ?_|fail)
    refine ⟨rfl,?_⟩
    refine dV (i := 3) (o := ⟨_,_,_,_,_,_⟩) (by kernel_rfl) rfl ?_
    refine aN rfl (.cons (.agg (.cons (.tree (t := .ints p.types) (B := B4) (by simp)) (.cons (.tree (t := .stms p.body) (B := B5) (by simp)) .nil))) (.cons (.pur PurV.pf) .nil)) (dR h2 rfl) rfl ?_
    rintro _ _ ⟨rfl,rfl⟩
    rw [List.append_nil]
    refine aJ ⟨rfl,?_⟩
    refine aS (i := 4) (o := ⟨_,_,_,_,_,_⟩) (by kernel_rfl) rfl ?_
    repeat' (first|refine aM ?_|fail)
    refine ⟨rfl,?_⟩
    refine eJ ⟨(),?_,rfl⟩ (by kernel_rfl)
    exact lX
 rintro _
 show cQ _ _ _ _ _ _
 refine gF rfl (fun hb => by cases hb) (fun _ => iI ?_)
 show cQ _ _ _ _ _ _
 refine aR (awt_lift ?_)
 repeat' (first|refine aF ?_|fail)
 show cQ _ _ _ _ _ _
 refine aR (bG ?_)
 refine aV (l1 := [_,_]) ?_
 repeat' (first|refine aM ?_|fail)
 refine ⟨rfl,?_⟩
 refine jH [] [(.ints p.types,.slice a4 p.types.length d4,B4),(.stms p.body,.slice a5 p.body.length d5,B5)] [(.ints Q.types,.slice a6 Q.types.length d6,B6),(.stms Q.body,.slice a7 Q.body.length d7,B7)] rfl rfl rfl (l6 p 1 hl hs (by decide) (by decide) a4 d4 B4 a5 d5 B5) rfl rfl ?_
 refine aV (l1 := [_]) (l2 := []) ?_
 repeat' (first|refine aM ?_|fail)
 refine ⟨rfl,aJ ?_⟩
 show cQ _ _ _ _ _ _
 refine aR (aR (bG ?_))
 refine aV (l1 := [_,_,_,_,_]) ?_
 repeat' (first|refine aM ?_|fail)
 all_goals try (exfalso;omega)
 refine ⟨rfl,?_⟩
 refine C0 rfl rfl (decide_eq_false (by omega)) ?_
 refine aN rfl (.cons (.agg (.cons (.tree (t := .ints Q.types) (B := B6) (by simp)) (.cons (.tree (t := .stms Q.body) (B := B7) (by simp)) .nil))) (.cons (.pur PurV.pf) .nil)) (dR h5 rfl) rfl ?_
 rintro _ _ ⟨rfl,rfl⟩
 rw [List.append_nil]
 refine aV (l1 := [_,_,_,_,_,_,_]) (l2 := []) ?_
 repeat' (first|refine aM ?_|fail)
 all_goals try (exfalso;omega)
 refine ⟨rfl,?_⟩
 refine aJ ?_
 show cQ _ _ _ _ _ _
 refine gF rfl (fun hb => by simp at hb) (fun _ => iI ?_)
 show cQ _ _ _ _ _ _
 refine aR (awt_lift ?_)
 repeat' (first|refine aF ?_|fail)
 show cQ _ _ _ _ _ _
 refine aR (bG ?_)
 refine aV (l1 := [_,_]) ?_
 repeat' (first|refine aM ?_|fail)
 refine ⟨rfl,?_⟩
 refine jH [(.ints (rJ 1 p.types.length),.slice a4 p.types.length d4,B4),(.stms (iO (1 + p.types.length) p.body),.slice a5 p.body.length d5,B5)] [(.ints Q.types,.slice a6 Q.types.length d6,B6),(.stms Q.body,.slice a7 Q.body.length d7,B7)] [] (E0' := [(.ints (rJ 1 Q.types.length),.slice a6 Q.types.length d6,B6),(.stms (iO (1 + Q.types.length) Q.body),.slice a7 Q.body.length d7,B7)]) rfl rfl rfl (l6 Q 1 hQl hQs (by decide) (by decide) a6 d6 B6 a7 d7 B7) rfl rfl ?_
 refine aV (l1 := [_]) (l2 := []) ?_
 repeat' (first|refine aM ?_|fail)
 refine ⟨rfl,aJ ?_⟩
 show cQ _ _ _ _ _ _
 refine aR (awt_lift ?_)
 repeat' (first|refine aF ?_|fail)
 show cQ _ _ _ _ _ _
 refine aR (bG ?_)
 refine aV (l1 := [_,_]) ?_
 repeat' (first|refine aM ?_|fail)
 refine ⟨rfl,?_⟩
 refine aN rfl (.cons (.agg (.cons (.tree (t := .ints (rJ 1 Q.types.length)) (B := B6) (by simp)) (.cons (.tree (t := .stms (iO (1 + Q.types.length) Q.body)) (B := B7) (by simp)) .nil))) (.cons (.pur PurV.pf) .nil)) (dR h6 rfl) rfl ?_
 rintro _ _ ⟨rfl,rfl⟩
 rw [List.append_nil]
 refine aV (l1 := [_]) (l2 := []) ?_
 repeat' (first|refine aM ?_|fail)
 refine ⟨rfl,?_⟩
 refine aJ ?_
 show cQ _ _ _ _ _ _
 refine aR (awt_lift ?_)
 repeat' (first|refine aF ?_|fail)
 all_goals first|(exfalso;omega)|(exfalso;exact (by assumption : ¬ True) trivial)|(show cQ _ _ _ _ _ _)
 refine aR (awt_lift ?_)
 repeat' (first|refine aF ?_|(refine aU ?_ ?_ <;> intro hc hq <;> try (exfalso;omega))|fail)
 all_goals first|(exfalso;omega)|(exfalso;exact (by assumption : ¬ True) trivial)|(show cQ _ _ _ _ _ _)
 refine aR (awt_lift ?_)
 repeat' (first|(apply aH;first|(apply aA (k := 9);rfl;exact h1;exact Pur.pf;rfl)|(apply aA (k := 20);rfl;exact h3;exact Pur.pf;rfl))|refine aF ?_|fail)
 show cQ _ _ _ _ _ _
 refine aR (awt_lift ?_)
 repeat' (first|(apply aH;(apply aA (k := 12);rfl;exact h5;exact Pur.pf;rfl))|refine aF ?_|fail)
 show cQ _ _ _ _ _ _
 refine aR (awt_lift ?_)
 repeat' (first|refine aF ?_|fail)
 show cQ _ _ _ _ _ _
 refine aR (bG ?_)
 refine aV (l1 := [_,_]) ?_
 repeat' (first|refine aM ?_|fail)
 refine ⟨rfl,?_⟩
 refine aN rfl (.cons (.agg (.cons (.tree (t := .ints (rJ 1 Q.types.length)) (B := B6) (by simp)) (.cons (.tree (t := .stms (iO (1 + Q.types.length) Q.body)) (B := B7) (by simp)) .nil))) (.cons (.pur PurV.pf) .nil)) (dR h6 rfl) rfl ?_
 rintro _ _ ⟨rfl,rfl⟩
 rw [List.append_nil]
 refine aV (l1 := [_]) (l2 := []) ?_
 repeat' (first|refine aM ?_|fail)
 refine ⟨rfl,?_⟩
 refine aJ ?_
 show cQ _ _ _ _ _ _
 refine aR (awt_lift ?_)
 repeat' (first|refine aF ?_|fail)
 all_goals first|(exfalso;omega)|(exfalso;exact (by assumption : ¬ True) trivial)|(show cQ _ _ _ _ _ _)
 refine aR (awt_lift ?_)
 repeat' (first|refine aF ?_|fail)
 all_goals first|(exfalso;omega)|(exfalso;exact (by assumption : ¬ True) trivial)|(show cQ _ _ _ _ _ _)
 refine awt_lift ?_
 repeat' (first|refine aF ?_|fail)
 exact mU (l := [bv true]) rfl rfl rfl rfl
theorem oA (p:Prg) (k v:Int) (hl:p.types.length ≤ 9223372036854775807) (hln:Dr p.body):oY Tryz.prog 5 [bY p,iv k,iv v] (fun r E => r = bv true):=by
 have c0 := oU p 1048576 (by decide) (by decide) hl hln
 by_cases q : ((p.types.length + aI p.body : Nat) : Int) ≤ 1048576
 ·exact tP p k v (by omega) (by omega) hln q
 ·rw [jN q] at c0
  refine E5 ?_
  refine aC Tryz.func5 Tryz.ntmps5 ?_
  repeat' (first|(apply aH;(apply aA (k := 7);rfl;exact c0;exact Pur.pf;rfl))|refine aF ?_|fail)
  all_goals first
   | exact aO rfl ⟨rfl,rfl⟩
   | (exfalso;omega)
end Go.Proofs.YtgkalkgplcdnkaaGreat
