/-
 A part of the proofs over this program: rules and contracts of its functions (the contracts).
-/
import Derived.Test.YtjnhlgpbojggnaaGreatDoorS3B04
import Derived.Test.YtjnhlgpbojggnaaGreatDoorRows
import Derived.WalkKit
import Derived.ProofKit
import Derived.OpenShut
import Derived.Carry
import Derived.ChangeSlices
set_option linter.unusedVariables false
set_option linter.unusedSimpArgs false
set_option maxHeartbeats 8000000
set_option maxRecDepth 4000
attribute [local irreducible] Go.AL.RW Go.AL.AW Go.AL.Stop
namespace Go.Proofs.YtjnhlgpbojggnaaGreatDoor
open Go.AL Go.RowKit
variable {N : Nat} {Q : Exit → AS → Prop} {all : Array Oper} {rest : List Oper} {tsl : List (Nat × AV)} {hsl : List (Nat × Option (List AV))} {nidl : Nat} {z0 : Lo} {md : Md} {d : Nat} {ty : TypeId} {pos : String} {af : Array Edge} {tys : Array TypeId}
def cStr (s : ByteArray) : List AV := [.v (.string s)]
instance : FlT cStr 1:=⟨fun _ => rfl⟩
instance : FE cStr (fun s => [.v (.string s)]):=⟨fun _ => rfl⟩
instance (s : ByteArray) : Pur (cStr s):=⟨rfl⟩
theorem Le.slotEq {ts:List (Nat × AV)}{hs:List (Nat × Option (List AV))}{n:Nat}{z0:Lo}{d:Nat}(v v':AV) (hd:lk ts d = some v) (h:v = v'):Le ⟨ts,hs,n,z0⟩ ⟨(d,v') :: ts,hs,n,z0⟩ :=
 Le.slot hd fun w bad ι y hr => h ▸ hr
def kinds : List ByteArray := [⟨#[]⟩,⟨#[105]⟩,⟨#[98]⟩,⟨#[114]⟩,⟨#[109]⟩]
theorem kinds_size (k:Nat):(kinds[k]!).size ≤ 1:=by
 match k with
 | 0 => decide
 | 1 => decide
 | 2 => decide
 | 3 => decide
 | 4 => decide
 | k + 5 => exact (show (default : ByteArray).size ≤ 1 from by decide)
theorem l1Program_c (p:Prg) (hv:validF p = true):PC Tryz.prog 51 [aPrg p] (fun r => ∃ t,r = sv t):=by
 have hv2 := hv
 simp only [validF,Bool.and_eq_true,decide_eq_true_eq] at hv2
 obtain ⟨⟨hts,hol⟩,hcn⟩ := hv2
 have hl6 := typesOk_len hts
 have htx := textL_size p.body
 refine pc_start Tryz.func51 Tryz.ntmps51 ?_
 repeat' (first|refine stpb ?_|fail)
 refine aw_loopA (σ := Nat × ByteArray) [1] [0] (fun k => [(4,iv (k.1 : Int)),(3,sv k.2)]) (fun k => []) (fun k => k.1 ≤ p.types.length ∧ k.2.size ≤ k.1) (fun k => p.types.length - k.1) (0,⟨#[]⟩) ⟨by omega,by show 0 ≤ 0;omega⟩ ?_
 rintro ⟨k,t⟩ ⟨hk,ht⟩
 dsimp only at hk ht ⊢
 have htk := typesOk_at hts k
 have hkz : (kinds[(p.types[k]!).toNat]!).size ≤ 1 := kinds_size _
 have hkl : kinds.length = 5 := rfl
 repeat' (first|(apply id_rw;first|(with_reducible apply rw_stop (d := 14))|(apply rx_callE (k := 92);rfl;exact l1List_c p.types 4 p.body hts (by omega) hol;exact Pur.pf;rfl)|(apply rx_sbin;rfl;rfl;(exact sadd_ok (by (simp only [ByteArray.size_append,bsz_lit,List.length_cons,List.length_nil,letF_size,decF_size,bytF_size] <;> omega)));rfl)|(apply rx_buildSliceI (t := _);rfl;rfl;rfl;(exact (rfl:_=some [_,_,_,_,_]));rfl;rfl))|refine stpb ?_|(refine stp2 ?_ ?_ <;> intro hc hq <;> try (exfalso;omega))|fail)
 ·refine rw_go (rw_le ?_ (Le.slotEq (d := 13) _ (.imm 5 (flat cStr kinds)) rfl rfl))
  repeat' (first|(apply id_rw;(apply rx_sbin;rfl;rfl;(exact sadd_ok (by (omega)));rfl))|refine stpb ?_|fail)
  (refine ex3 (k + 1,_) (Le.renA [(0,0)]) ?_ ?_)
  ·exact ⟨by dsimp only;omega,by dsimp only;rw [ByteArray.size_append]; omega⟩
  ·dsimp only;omega
 ·refine rq_ret rfl ⟨⟨_,rfl⟩,rfl⟩
theorem qprog0 {s:ByteArray}(b:Bool):(∃ (q:Prg) (b':Bool),AV.tup [AV.agg [.imm 0 [],.imm 0 []],bv b] = .tup [aPrg q,bv b'] ∧ cntL q.body ≤ s.size + 10 ∧ q.types.length ≤ s.size + 10) :=
 ⟨⟨[],[]⟩,b,rfl,by simp [cntL],by simp⟩
theorem parseProgram_c (s:ByteArray) (hs:s.size ≤ 10000):PC Tryz.prog 97 [sv s] (fun r => ∃ (q:Prg) (b:Bool),r = .tup [aPrg q,bv b] ∧ cntL q.body ≤ s.size + 10 ∧ q.types.length ≤ s.size + 10):=by
 refine pc_start Tryz.func97 Tryz.ntmps97 ?_
 repeat' (first|(apply id_rw;(with_reducible apply rw_stop (d := 13)))|refine stpb ?_|(refine stp2 ?_ ?_ <;> intro hc hq <;> try (exfalso;omega))|fail)
 ·exact rq_ret (l := [.agg [.imm 0 [],.imm 0 []],bv false]) rfl ⟨qprog0 false,rfl⟩
 refine rw_go ?_
 apply rx_build
 case hl => rfl
 case hf => exact (rfl:_=some [AV.v (.slice none 0 0),AV.v (.slice none 0 0)])
 case hN => rfl
 repeat' (first|refine stpb ?_|fail)
 apply AW.le
 case k => exact Le.nilCell (i := 1) 1 [] rfl (by decide) (by decide)
 refine aw_loopA (σ := Nat × List Int × Nat) [0,2,4] [0] (fun k => [(5,iv (k.1 : Int))]) (fun k => [(1,some [.own 2 0 k.2.2 1,.v (.slice none 0 0)]),(2,some (flat cI k.2.1))]) (fun k => k.1 ≤ s.size ∧ k.2.1.length = k.1 ∧ k.2.2 = k.2.1.length) (fun k => s.size - k.1) (0,[],0) ⟨by omega,rfl,rfl⟩ ?_
 rintro ⟨k,xs,m⟩ ⟨hk,hxl,hm⟩
 dsimp only at hk hxl hm ⊢
 repeat' (first|(apply id_rw;first|(with_reducible apply rw_stop (d := 43))|(apply rx_indexS;rfl;rfl;omega;rfl)|(apply rx_buildSliceI (t := _);rfl;rfl;rfl;exact (rfl:_=some [_]);rfl;rfl))|refine stpb ?_|(refine stp2 ?_ ?_ <;> intro hc hq <;> try (exfalso;omega))|(refine stp3 ?_ ?_ <;> intro hg hq <;> try (exfalso;omega))|fail)
 ·(refine ex3 (k + 1, xs ++ [1], m + 1) (Le.renA [(0, 0), (1, 1), (2, 4)]) ?_ ?_)
  ·exact ⟨by dsimp only;omega,by simp [hxl],by simp [hm]⟩
  ·dsimp only;omega
 ·(refine ex3 (k + 1, xs ++ [2], m + 1) (Le.renA [(0, 0), (1, 1), (2, 4)]) ?_ ?_)
  ·exact ⟨by dsimp only;omega,by simp [hxl],by simp [hm]⟩
  ·dsimp only;omega
 ·(refine ex3 (k + 1, xs ++ [3], m + 1) (Le.renA [(0, 0), (1, 1), (2, 4)]) ?_ ?_)
  ·exact ⟨by dsimp only;omega,by simp [hxl],by simp [hm]⟩
  ·dsimp only;omega
 ·(refine ex3 (k + 1, xs ++ [4], m + 1) (Le.renA [(0, 0), (1, 1), (2, 4)]) ?_ ?_)
  ·exact ⟨by dsimp only;omega,by simp [hxl],by simp [hm]⟩
  ·dsimp only;omega
 ·(refine ex3 (k + 1, xs ++ [0], m + 1) (Le.renA [(0, 0), (1, 1), (2, 4)]) ?_ ?_)
  ·exact ⟨by dsimp only;omega,by simp [hxl],by simp [hm]⟩
  ·dsimp only;omega
 all_goals subst hm
 all_goals (refine rw_go (rw_le ?_ (Le.frzC (j := 1) (i := 2) [] rfl rfl (by decide))))
 all_goals repeat' (first|(apply id_rw;first|(apply rx_call (k := 145);rfl;(apply list4_c <;> omega);(rfl);rfl;(rintro _ ⟨l,nx,rfl,hql⟩ _))|(apply rx_callE (k := 50);rfl;(exact validS_c ⟨xs,l⟩ (by show xs.length ≤ _; omega) (by show cntL l ≤ 100000000;rcases hql with ⟨_,h9⟩|h9;(rw [h9]; decide);omega));exact Pur.pf;rfl)|(apply rx_call (k := 51);rfl;exact l1Program_c ⟨xs,l⟩ (by assumption);exact Pur.pf;rfl;(rintro _ ⟨t,rfl⟩ _))|(apply rx_sbin;rfl;rfl;(rfl);rfl))|refine stpb ?_|(refine stp2 ?_ ?_ <;> intro hc hq <;> try (exfalso;omega))|(refine stp3 ?_ ?_ <;> intro hg hq <;> try (exfalso;omega))|fail)
 all_goals first
  | exact rq_ret (l := [.agg [.imm 0 [],.imm 0 []],bv false]) rfl ⟨qprog0 false,rfl⟩
  | (refine rq_ret (l := [.agg [.imm xs.length (flat cI xs), sl cStmt l], bv true]) rfl ⟨⟨⟨xs, l⟩, true, rfl, ?_, by show xs.length ≤ _; omega⟩, Pur.pf⟩
     show cntL l ≤ _
     rcases hql with ⟨_,h9⟩|h9
     ·rw [h9]; simp [cntL]
     ·omega)
class NumS (cs : List AV) (xs : outParam (List ByteArray)) : Prop where h : cs = flat cStr xs
instance NumS.nil : NumS [] []:=⟨rfl⟩
instance NumS.cons {n : ByteArray} {cs : List AV} {xs : List ByteArray} [h : NumS cs xs] : NumS (.v (.string n) :: cs) (n :: xs):=⟨by rw [h.h]; rfl⟩
theorem texts_of {cs:List AV}{xs:List ByteArray}{m:Nat}(h:NumS cs xs) (hm:m = xs.length) (hs:xs.all (fun s => decide (s.size ≤ 600)) = true):∃ ys:List ByteArray,AV.imm m cs = sl cStr ys ∧ ys.length = m ∧ ∀ i:Nat,(ys[i]!).size ≤ 600:=by
 refine ⟨xs,by rw [h.h,hm],hm.symm,fun i => ?_⟩
 by_cases hi : i < xs.length
 ·rw [List.all_eq_true] at hs
  rw [getB _ _ hi]
  simpa using hs _ (List.getElem_mem hi)
 ·rw [getElem!_neg xs i hi]; decide
theorem l1Texts_c:PC Tryz.prog 96 [] (fun r => ∃ ys:List ByteArray,r = sl cStr ys ∧ ys.length = 25 ∧ ∀ i:Nat,(ys[i]!).size ≤ 600):=by
 refine pc_start Tryz.func96 Tryz.ntmps96 ?_
 repeat' (first|(apply id_rw;(apply rx_buildSliceI (t := _);rfl;rfl;rfl;exact (rfl:_=some [_,_,_,_,_,_,_,_,_,_,_,_,_,_,_,_,_,_,_,_,_,_,_,_,_]);rfl;rfl))|refine stpb ?_|fail)
 refine rq_q (l := [.imm 25 [_,_,_,_,_,_,_,_,_,_,_,_,_,_,_,_,_,_,_,_,_,_,_,_,_]]) ?_ rfl ?_
 ·rintro _ ⟨ys,rfl,_⟩; exact pur_sl _ _
 ·exact texts_of inferInstance rfl (by decide)
theorem rx_prgcall {P:Program}{N:Nat}{Q:Exit → AS → Prop}{all:Array Oper}{rest:List Oper}{ts:List (Nat × AV)}{hs:List (Nat × Option (List AV))}{n:Nat}{z0:Lo}{ty:TypeId}{pos:String}{af:Array Edge}{d:Nat}{args:Array Operand}{tys:Array TypeId}
  {k : FuncId} {pv : List AV} {p0 : Prg × Nat → Prop} {i p : Nat} {bs : List UInt8} (h : MC P k (.optr 0 0 :: pv) [(0,some (cRd bs p))] 1 p0 (fun x => aPrg x.1) (fun x => [(0,some (cRd bs x.2))])) [hc : CaT P k] (ha : evL (lk ts) args.toList = some (.optr i 0 :: pv)) (hpv : pursB pv = true)
  (hH : lkH hs i = some (cRd bs p)) (hM : Nat.ble (n + 0) big = true) (hN : Nat.blt d N = true) (kk : ∀ x,p0 x → RW P N all Q .txt rest ⟨(d,aPrg x.1) :: ts,(i,some (cRd bs x.2)) :: hs,n + 0,z0⟩) :
  RW P N all Q .txt (⟨some d,.call ⟨.value (.func k),args,tys⟩,ty,pos,af,none⟩ :: rest) ⟨ts,hs,n,z0⟩ :=
 rx_mcall (σ := Prg × Nat) [i] 1 (fun x : Prg × Nat => [(i, some (cRd bs x.2))]) h ha rfl ⟨⟨_, _, rfl, hH, RnL.purI inferInstance⟩, trivial⟩ rfl (RnL.cons (RnV.optr rfl) (RnL.pur hpv)) (by simpa using hM)
  (fun x _ => RnV.purI inferInstance) (fun x _ => by simp [wsAll]) (fun x _ => ⟨⟨0,_,rfl,rfl,RnL.purI inferInstance⟩,trivial⟩) hN kk
theorem num_bd (bs:List UInt8) (p:Nat) (xs:List Int) (lo hi:Int) (h0:0 < xs.length) (h:xs.all (fun x => decide (lo ≤ x) && decide (x ≤ hi)) = true):lo ≤ numF bs p xs ∧ numF bs p xs ≤ hi:=by
 have h1 := pickF_bd bs p (xs.length : Int)
 rw [all_iff] at h
 have := h (pickF bs p (xs.length : Int)).toNat (by omega)
 simp only [Bool.and_eq_true,decide_eq_true_eq] at this
 exact this
theorem draw_c (bs:List UInt8) (p:Nat) (hb:bs.length ≤ 2000) (hp:p ≤ 1000):MC Tryz.prog 55 [.optr 0 0] [(0,some (cRd bs p))] 1 (fun x:Prg × Nat => cntL x.1.body ≤ 620 ∧ x.1.types.length ≤ 620 ∧ x.2 ≤ 2000) (fun x => aPrg x.1) (fun x => [(0,some (cRd bs x.2))]):=by
 have h0 := pickF_bd bs p 25
 have hn := num_bd bs (p + 1 + 1) [5,4,7,3,8] 0 8 (by decide) (by decide)
 refine mc_start Tryz.func55 Tryz.ntmps55 ?_
 repeat' (first|(apply id_rw;first|(apply rx_call (k := 96);rfl;exact l1Texts_c;(rfl);rfl;(rintro _ ⟨ys,rfl,hyl,hsz⟩ _);(have hpk := pickF_bd bs p (ys.length : Int)))|(apply rx_call (k := 97);rfl;exact parseProgram_c _ (Nat.le_trans (hsz _) (by decide));(rfl);rfl;(rintro _ ⟨q,b,rfl,hqc,hqt⟩ _))|(apply rx_l1Some (ts := [1,2,2,3,4,4]);rfl;rfl;rfl;rfl;rfl;(apply l1Some_c <;> (first|assumption|omega));rfl;rfl)|(apply rx_buildSliceI (t := _);rfl;rfl;rfl;(exact (rfl:_=some [_,_,_,_,_,_]));rfl;rfl)|(first|(apply rx_pick;rfl;rfl;(rfl);(apply pick_c <;> (first|assumption|omega));rfl;rfl)|(apply rx_numO;rfl;rfl;rfl;rfl;infer_instance;rfl;(rfl);assumption;omega;(decide);(decide);rfl;rfl)))|refine stpb ?_|(refine stp2 ?_ ?_ <;> intro hc hq <;> try (exfalso;omega))|(refine stp3 ?_ ?_ <;> intro hg hq <;> try (exfalso;omega))|refine stpd ?_|fail)
 ·have h9 := hsz (pickF bs p (ys.length : Int)).toNat
  refine rq_ret rfl ?_
  exact mc_ret (q,p + 1 + 1) ⟨by dsimp only;omega,by dsimp only;omega,by dsimp only;omega⟩ rfl ⟨.inr rfl,trivial⟩
 ·have h9 := someF_n bs (d := 2) (by omega) (numF bs (p + 1 + 1) [5, 4, 7, 3, 8]) (p + 1 + 1 + 1)
  have h10 := someF_p bs (d := 2) (by omega) (numF bs (p + 1 + 1) [5,4,7,3,8]) (p + 1 + 1 + 1)
  refine rq_ret rfl ?_
  exact mc_ret ((⟨[1,2,2,3,4,4],(someF bs 2 (numF bs (p + 1 + 1) [5,4,7,3,8]) (p + 1 + 1 + 1)).1⟩ : Prg),(someF bs 2 (numF bs (p + 1 + 1) [5,4,7,3,8]) (p + 1 + 1 + 1)).2) ⟨by dsimp only;omega,by show 6 ≤ 620;decide,by dsimp only;omega⟩ rfl ⟨.inr rfl,trivial⟩
 ·have h9 := hsz (pickF bs p (ys.length : Int)).toNat
  refine rq_ret rfl ?_
  exact mc_ret (q,p + 1 + 1) ⟨by dsimp only;omega,by dsimp only;omega,by dsimp only;omega⟩ rfl ⟨.inr rfl,trivial⟩
theorem rx_l17Open {bs:List UInt8}{x0:Operand}(ha0:ev (lk tsl) x0 = some (sl cU bs)) (hmc:MC Tryz.prog 32 [sl cU bs] [] 0 (fun _:Unit => True) (fun _ => .optr 0 0) (fun _ => [(0,some (cRd (bs.take 2000) 0))])) (hM:Nat.ble (nidl + 1) big = true) (hN:Nat.blt d N = true){md':Md}[hmd:MdA md (rOs [x0] ++ []) (List.map Sum.inr (List.map Prod.fst ([(nidl,some (cRd (bs.take 2000) 0))]:List (Nat × Option (List AV)))) ++ [.inl d]) md'] (kk:RW Tryz.prog N all Q md' rest ⟨(d,.optr nidl 0) :: tsl,wrH hsl [(nidl,some (cRd (bs.take 2000) 0))],nidl + 1,z0⟩):RW Tryz.prog N all Q md (⟨some d,.call ⟨.value (.func 32),#[x0],tys⟩,ty,pos,af,none⟩ :: rest) ⟨tsl,hsl,nidl,z0⟩:=by
 exact rx_mcallA (l := [x0]) [] 1 [(nidl,some (cRd (bs.take 2000) 0))] hmc (avs := [sl cU bs]) (by simp only [evL,ha0]) rfl hM hN (md' := md') (hmd := hmd) kk
theorem l17Open_c (bs:List UInt8) (hb:bs.length ≤ 1048576):MC Tryz.prog 32 [sl cU bs] [] 0 (fun _:Unit => True) (fun _ => .optr 0 0) (fun _ => [(0,some (cRd (bs.take 2000) 0))]) := open_c bs hb
theorem drawCheck_c (bs:List UInt8) (hb:bs.length ≤ 1048576):PC Tryz.prog 28 [sl cU bs] (fun r => ∃ q:Prg,r = aPrg q ∧ cntL q.body ≤ 20000 ∧ q.types.length ≤ 1000):=by
 have hb2 : (bs.take 2000).length ≤ 2000 := by rw [List.length_take]; omega
 refine pc_start Tryz.func28 Tryz.ntmps28 ?_
 repeat' (first|(apply id_rw;first|(apply rx_prgcall (k := 55);exact draw_c (bs.take 2000) 0 hb2 (by decide);rfl;rfl;rfl;rfl;rfl;(rintro ⟨q,p1⟩ ⟨hq1,hq2,hq3⟩);(dsimp only at hq1 hq2 hq3))|(apply rx_prgcall (k := 54);exact mutate_c (bs.take 2000) p1 q hb2 (by omega) (by omega) (by omega);rfl;exact Pur.pf;rfl;rfl;rfl;(rintro ⟨q2,p2⟩ ⟨hr1,hr2,hr3⟩);(dsimp only at hr1 hr2 hr3))|(apply rx_l17Open;rfl;(apply l17Open_c <;> (assumption));rfl;rfl))|refine stpb ?_|fail)
 exact rq_ret (l := [aPrg q2]) rfl ⟨⟨q2,rfl,by omega,by omega⟩,Pur.pf⟩
theorem CheckI0_c (p:Prg) (hv:validF p = false) (hl:p.types.length ≤ 1048576) (hs:cntL p.body ≤ 1048576):PC Tryz.prog 67 [aPrg p] (fun r => r = sl cIss []):=by
 refine pc_start Tryz.func67 Tryz.ntmps67 ?_
 repeat' (first|(apply id_rw;(apply rx_callE (k := 104);rfl;(exact (by have := graphOf_c p hl hs;rw [if_neg (by simp [hv])] at this;exact this));exact Pur.pf;rfl))|refine stpb ?_|fail)
 (refine rq_le (Le.nilImm (d := 2) rfl) ?_; refine rq_ret rfl ?_)
 exact ⟨rfl,rfl⟩
theorem CheckS0_c (p:Prg) (hv:validF p = false) (hl:p.types.length ≤ 1048576) (hs:cntL p.body ≤ 1048576):PC Tryz.prog 68 [aPrg p] (fun r => r = sl cIss []):=by
 have hval := validS_c p hl (by omega)
 rw [hv] at hval
 refine pc_start Tryz.func68 Tryz.ntmps68 ?_
 repeat' (first|(apply id_rw;first|(apply rx_callE (k := 50);rfl;exact hval;exact Pur.pf;rfl)|(apply rx_buildSliceI (t := _);rfl;rfl;rfl;(rfl);rfl;rfl))|refine stpb ?_|fail)
 exact rq_ret rfl ⟨rfl,rfl⟩
theorem FirstI2_c (p:Prg) (L:List Iss) (hC:PC Tryz.prog 67 [aPrg p] (fun r => r = sl cIss L)):PC Tryz.prog 70 [aPrg p] (fun r => r = .tup [aIss (fstF L).1,bv (fstF L).2]):=by
 refine pc_start Tryz.func70 Tryz.ntmps70 ?_
 repeat' (first|(apply id_rw;(apply rx_callE (k := 67);rfl;exact hC;exact Pur.pf;rfl))|refine stpb ?_|(refine stp2 ?_ ?_ <;> intro hc hq <;> try (exfalso;omega))|fail)
 ·cases L with
  | cons a b => simp only [List.length_cons] at hq;omega
  | nil => exact rq_ret (l := [.agg [iv 0,iv 0,iv 0],bv false]) rfl ⟨rfl,rfl⟩
 ·cases L with
  | nil => simp at hq
  | cons a b => exact rq_ret (l := [.agg [iv a.point,iv a.kind,iv a.with_],bv true]) rfl ⟨rfl,rfl⟩
theorem AcceptsI2_c (p:Prg) (L:List Iss) (hl:p.types.length ≤ 1048576) (hs:cntL p.body ≤ 1048576) (hC:PC Tryz.prog 67 [aPrg p] (fun r => r = sl cIss L)):PC Tryz.prog 29 [aPrg p] (fun r => r = bv (validF p && L.isEmpty)):=by
 refine pc_start Tryz.func29 Tryz.ntmps29 ?_
 repeat' (first|(apply id_rw;first|(apply rx_callE (k := 67);rfl;exact hC;exact Pur.pf;rfl)|(apply rx_callE (k := 17);rfl;(apply validI_c <;> (first|assumption|omega));exact Pur.pf;rfl))|refine stpb ?_|(refine stp3 ?_ ?_ <;> intro hg hq <;> try (exfalso;omega))|fail)
 all_goals refine rq_ret rfl ⟨?_,rfl⟩
 all_goals simp only [oneOf]
 ·rw [show validF p = true by assumption]
  cases L with
  | nil => rfl
  | cons a b => simp;omega
 ·rw [show validF p = false by assumption]; rfl
theorem AcceptsS2_c (p:Prg) (L:List Iss) (hl:p.types.length ≤ 1048576) (hs:cntL p.body ≤ 1048576) (hC:PC Tryz.prog 68 [aPrg p] (fun r => r = sl cIss L)):PC Tryz.prog 30 [aPrg p] (fun r => r = bv (validF p && L.isEmpty)):=by
 have hval := validS_c p hl (by omega)
 refine pc_start Tryz.func30 Tryz.ntmps30 ?_
 repeat' (first|(apply id_rw;first|(apply rx_callE (k := 68);rfl;exact hC;exact Pur.pf;rfl)|(apply rx_callE (k := 50);rfl;exact hval;exact Pur.pf;rfl))|refine stpb ?_|(refine stp3 ?_ ?_ <;> intro hg hq <;> try (exfalso;omega))|fail)
 all_goals refine rq_ret rfl ⟨?_,rfl⟩
 all_goals simp only [oneOf]
 ·rw [show validF p = true by assumption]
  cases L with
  | nil => rfl
  | cons a b => simp;omega
 ·rw [show validF p = false by assumption]; rfl
def u1 (Af : List Nat) (i loan : Int) (v : Int) : Bool := (row6 Af i.toNat)[v.toNat]!.testBit loan.toNat
theorem cloneI_c (xs:List Int) (hl:xs.length ≤ 1048576):PC Tryz.prog 114 [sl cI xs] (fun r => r = sl cI xs):=by
 refine pc_start Tryz.func114 Tryz.ntmps114 ?_
 repeat' (first|(apply id_rw;(apply rx_eqNil;rfl;rfl;(intro b hb)))|refine stpb ?_|(refine stp2 ?_ ?_ <;> intro hc hq <;> try (exfalso;omega))|fail)
 ·have h0 : xs = [] := List.eq_nil_of_length_eq_zero (hb (by assumption))
  subst h0
  (refine rq_le (Le.nilImm (d := 2) rfl) ?_; refine rq_ret rfl ?_)
  exact ⟨rfl,rfl⟩
 ·(refine rq_le (Le.frzD (d := 2) (i := 1) rfl rfl) ?_; refine rq_ret rfl ?_)
  refine ⟨?_,(by (exact pur_sl _ _))⟩
  simp only [oneOf,sl,Nat.zero_add]
theorem own_c0 (mm:Nat) (hmm:mm ≤ 1048576) (own_ih:∀ l,cntL l < mm → PC Tryz.prog 115 [sl cStmt l] (fun r => r = sl cStmt l)) (l:List AL.Stmt) (hs:cntL l ≤ mm):PC Tryz.prog 115 [sl cStmt l] (fun r => r = sl cStmt l):=by
 have hlen := cntL_len l
 refine pc_start Tryz.func115 Tryz.ntmps115 ?_
 repeat' (first|(apply id_rw;(apply rx_assignNil (d := 3) (e := 6);rfl;rfl))|refine stpb ?_|fail)
 refine aw_loopA (σ := Nat × List AL.Stmt) [6,7] [] (fun k => [(8,iv (k.1 : Int)),(3,.own 0 0 k.1 6)]) (fun k => [(0,some (flat cStmt k.2))]) (fun k => k.1 ≤ l.length ∧ k.2 = l.take k.1) (fun k => l.length - k.1) (0,[]) ⟨by omega,rfl⟩ ?_
 rintro ⟨k,xs⟩ ⟨hk,hxs⟩
 dsimp only at hk hxs ⊢
 have hck := cntL_at l k
 have hct := cnt_th l[k]!
 have hln : xs.length = k := by rw [hxs,List.length_take]; omega
 repeat' (first|(apply id_rw;first|(apply rx_buildSliceI (t := _);rfl;rfl;rfl;(exact (rfl:_=some [_,_,_,_,_,_]));rfl;rfl)|(apply rx_callE (k := 115);rfl;(apply own_ih <;> (omega));exact Pur.pf;rfl))|refine stpb ?_|(refine stp2 ?_ ?_ <;> intro hc hq <;> try (exfalso;omega))|refine stpd ?_|fail)
 ·(refine ex3 (k + 1, _) (Le.renA [(0, 3)]) ?_ ?_)
  ·exact ⟨by dsimp only;omega,by dsimp only;rw [hxs,take_succB l k (by omega)]⟩
  ·dsimp only;omega
 ·have hke : k = l.length := by omega
  (refine rq_le (Le.frzD (d := 2) (i := 0) rfl rfl) ?_; refine rq_ret rfl ?_)
  refine ⟨?_,Pur.pf⟩
  rw [hxs,hke,List.take_length]; rfl
theorem own_c (l:List AL.Stmt) (hb:cntL l ≤ 1048576):PC Tryz.prog 115 [sl cStmt l] (fun r => r = sl cStmt l):=by
 have key : ∀ m, m ≤ 1048576 → ∀ l, cntL l ≤ m → PC Tryz.prog 115 [sl cStmt l] (fun r => r = sl cStmt l) := by
  intro m
  induction m with
  | zero => intro hm l hl;exact own_c0 0 hm (fun l h => by omega) l hl
  | succ m ih => intro hm l hl;exact own_c0 (m + 1) hm (fun l h => ih (by omega) l (by omega)) l hl
 exact key (cntL l) hb l (Nat.le_refl _)
theorem ownM_c (l:List AL.Stmt) (hs:cntL l ≤ 1048576):MC Tryz.prog 115 [sl cStmt l] [] 0 (fun _:Unit => True) (fun _ => .own 0 0 l.length 6) (fun _ => [(0,some (flat cStmt l))]):=by
 have hlen := cntL_len l
 refine mc_start Tryz.func115 Tryz.ntmps115 ?_
 repeat' (first|(apply id_rw;(apply rx_assignNil (d := 3) (e := 6);rfl;rfl))|refine stpb ?_|fail)
 refine aw_loopA (σ := Nat × List AL.Stmt) [6,7] [] (fun k => [(8,iv (k.1 : Int)),(3,.own 0 0 k.1 6)]) (fun k => [(0,some (flat cStmt k.2))]) (fun k => k.1 ≤ l.length ∧ k.2 = l.take k.1) (fun k => l.length - k.1) (0,[]) ⟨by omega,rfl⟩ ?_
 rintro ⟨k,xs⟩ ⟨hk,hxs⟩
 dsimp only at hk hxs ⊢
 have hck := cntL_at l k
 have hct := cnt_th l[k]!
 have hln : xs.length = k := by rw [hxs,List.length_take]; omega
 have o1 := own_c l[k]!.th
 have o2 := own_c l[k]!.el
 repeat' (first|(apply id_rw;first|(apply rx_callE (k := 115);rfl;exact (o1 (by omega));exact Pur.pf;rfl)|(apply rx_callE (k := 115);rfl;exact (o2 (by omega));exact Pur.pf;rfl)|(apply rx_buildSliceI (t := _);rfl;rfl;rfl;(exact (rfl:_=some [_,_,_,_,_,_]));rfl;rfl))|refine stpb ?_|(refine stp2 ?_ ?_ <;> intro hc hq <;> try (exfalso;omega))|refine stpd ?_|fail)
 ·(refine ex3 (k + 1, _) (Le.renA [(0, 3)]) ?_ ?_)
  ·exact ⟨by dsimp only;omega,by dsimp only;rw [hxs,take_succB l k (by omega)]⟩
  ·dsimp only;omega
 ·have hke : k = l.length := by omega
  have hxl : xs = l := by rw [hxs,hke,List.take_length]
  subst hke
  (refine rq_ret rfl ?_; refine mc_ret () trivial ?_ ⟨sE ?_,trivial⟩)
  ·rfl
  ·rw [hxl]
theorem ownP_c (q:Prg) (hs:cntL q.body ≤ 1048576) (ht:q.types.length ≤ 1048576):PC Tryz.prog 69 [aPrg q] (fun r => r = aPrg q):=by
 have h1 := cloneI_c q.types ht
 have h2 := own_c q.body hs
 refine pc_start Tryz.func69 Tryz.ntmps69 ?_
 repeat' (first|(apply id_rw;first|(apply rx_callE (k := 114);rfl;exact h1;exact Pur.pf;rfl)|(apply rx_callE (k := 115);rfl;exact h2;exact Pur.pf;rfl))|refine stpb ?_|refine stpd ?_|fail)
 exact rq_ret (l := [aPrg q]) rfl ⟨rfl,Pur.pf⟩
theorem rx_ownM {l:List AL.Stmt}{x0:Operand}(ha0:ev (lk tsl) x0 = some (sl cStmt l)) (hmc:MC Tryz.prog 115 [sl cStmt l] [] 0 (fun _:Unit => True) (fun _ => .own 0 0 l.length 6) (fun _ => [(0,some (flat cStmt l))])) (hM:Nat.ble (nidl + 1) big = true) (hN:Nat.blt d N = true){md':Md}[hmd:MdA md (rOs [x0] ++ []) (List.map Sum.inr (List.map Prod.fst ([(nidl,some (flat cStmt l))]:List (Nat × Option (List AV)))) ++ [.inl d]) md'] (kk:RW Tryz.prog N all Q md' rest ⟨(d,.own nidl 0 l.length 6) :: tsl,wrH hsl [(nidl,some (flat cStmt l))],nidl + 1,z0⟩):RW Tryz.prog N all Q md (⟨some d,.call ⟨.value (.func 115),#[x0],tys⟩,ty,pos,af,none⟩ :: rest) ⟨tsl,hsl,nidl,z0⟩:=by
 exact rx_mcallA (l := [x0]) [] 1 [(nidl,some (flat cStmt l))] hmc (avs := [sl cStmt l]) (by simp only [evL,ha0]) rfl hM hN (md' := md') (hmd := hmd) kk
theorem rx_ownB {q:Prg}{x0:Operand}(ha0:ev (lk tsl) x0 = some (aPrg q)) (hmc:MC Tryz.prog 69 [aPrg q] [] 0 (fun _:Unit => True) (fun _ => .agg [sl cI q.types,.own 2 0 q.body.length 6]) (fun _ => [(2,some (flat cStmt q.body))])) (hM:Nat.ble (nidl + 3) big = true) (hN:Nat.blt d N = true){md':Md}[hmd:MdA md (rOs [x0] ++ []) (List.map Sum.inr (List.map Prod.fst ([((nidl + 2),some (flat cStmt q.body))]:List (Nat × Option (List AV)))) ++ [.inl d]) md'] (kk:RW Tryz.prog N all Q md' rest ⟨(d,.agg [sl cI q.types,.own (nidl + 2) 0 q.body.length 6]) :: tsl,wrH hsl [((nidl + 2),some (flat cStmt q.body))],nidl + 3,z0⟩):RW Tryz.prog N all Q md (⟨some d,.call ⟨.value (.func 69),#[x0],tys⟩,ty,pos,af,none⟩ :: rest) ⟨tsl,hsl,nidl,z0⟩:=by
 exact rx_mcallA (l := [x0]) [] 3 [((nidl + 2),some (flat cStmt q.body))] hmc (avs := [aPrg q]) (by simp only [evL,ha0]) rfl hM hN (md' := md') (hmd := hmd) kk
theorem ownB_c (q:Prg) (hs:cntL q.body ≤ 1048576) (ht:q.types.length ≤ 1048576):MC Tryz.prog 69 [aPrg q] [] 0 (fun _:Unit => True) (fun _ => .agg [sl cI q.types,.own 2 0 q.body.length 6]) (fun _ => [(2,some (flat cStmt q.body))]):=by
 have h1 := cloneI_c q.types ht
 refine mc_start Tryz.func69 Tryz.ntmps69 ?_
 repeat' (first|(apply id_rw;first|(apply rx_callE (k := 114);rfl;exact h1;exact Pur.pf;rfl)|(apply rx_ownM;rfl;(apply ownM_c;assumption);rfl;rfl))|refine stpb ?_|refine stpd ?_|fail)
 (refine rq_ret rfl ?_; refine mc_ret () trivial ?_ ⟨sE ?_,trivial⟩)
 ·rfl
 ·rfl
theorem rx_delI {xs:List Int}{m k:Nat}{x0 x1 x2:Operand}{i0:Nat}(ha0:ev (lk tsl) x0 = some (.own i0 0 m 1)) (ha1:ev (lk tsl) x1 = some (iv (k:Int))) (ha2:ev (lk tsl) x2 = some (iv ((k:Int) + 1))) (hH0:lkH hsl i0 = some (flat cI xs)) (hmc:MC Tryz.prog 72 [.own 0 0 m 1,iv (k:Int),iv ((k:Int) + 1)] [(0,some (flat cI xs))] 1 (fun _:Unit => True) (fun _ => .own 0 0 (m - 1) 1) (fun _ => [(0,some (flat cI (delL k xs)))])) (hM:Nat.ble (nidl + 0) big = true) (hN:Nat.blt d N = true){md':Md}[hmd:MdA md (rOs [x0,x1,x2] ++ [.inr i0]) (List.map Sum.inr (List.map Prod.fst ([(i0,some (flat cI (delL k xs)))]:List (Nat × Option (List AV)))) ++ [.inl d]) md'] (kk:RW Tryz.prog N all Q md' rest ⟨(d,.own i0 0 (m - 1) 1) :: tsl,wrH hsl [(i0,some (flat cI (delL k xs)))],nidl + 0,z0⟩):RW Tryz.prog N all Q md (⟨some d,.call ⟨.value (.func 72),#[x0,x1,x2],tys⟩,ty,pos,af,none⟩ :: rest) ⟨tsl,hsl,nidl,z0⟩:=by
 exact rx_mcallA (l := [x0,x1,x2]) [i0] 1 [(i0,some (flat cI (delL k xs)))] hmc (avs := [.own i0 0 m 1,iv (k : Int),iv ((k : Int) + 1)]) (by simp only [evL,ha0,ha1,ha2]) rfl hM hN (md' := md') (hmd := hmd) kk
theorem delI_c (xs:List Int) (m k:Nat) (hm:m = xs.length) (hk:k < m) (hl:m ≤ 1048576):MC Tryz.prog 72 [.own 0 0 m 1,iv (k:Int),iv ((k:Int) + 1)] [(0,some (flat cI xs))] 1 (fun _:Unit => True) (fun _ => .own 0 0 (m - 1) 1) (fun _ => [(0,some (flat cI (delL k xs)))]):=by
 subst hm
 refine mc_start Tryz.func72 Tryz.ntmps72 ?_
 repeat' (first|(apply id_rw;first|(apply rx_slice3 (l := k) (h := k + 1) (k := xs.length);rfl;exact bnd_to rfl (by omega);exact bnd_to rfl (by omega);exact bnd_to rfl (by omega);omega;rfl)|(apply rx_sliceC (d := 22) (h := k);rfl;exact bnd_to rfl (by omega);omega;omega;rfl)|(apply rx_slice (d := 25) (l := k + 1) (h := xs.length);rfl;rfl;exact bnd_to rfl (by omega);rfl;exact if_pos (by omega);rfl)|(apply rx_appendIn (d := 26);rfl;rfl;rfl;exact sC_tail rfl rfl;omega;(rw [flat_length cI (e := 1),flat_length cI (e := 1),List.length_drop]; omega);exact spl_del hk;rfl)|(apply rx_lenC;rfl;rfl)|(apply rx_sliceCC (d := 31) (l := xs.length - 1) (h := xs.length);rfl;exact bnd_to rfl (by omega);exact bnd_to rfl (by omega);omega;rfl)|(apply rx_clear;rfl;rfl;omega;rfl;(rw [List.length_append,flat_length cI (e := 1),flat_length cI (e := 1),List.length_drop]; have := delL_len hk;omega);exact spl_clr1 hk (by omega) rfl))|refine stpb ?_|(refine stp2 ?_ ?_ <;> intro hc hq <;> try (exfalso;omega))|refine stpd ?_|fail)
 refine rq_le (Le.noroom (d := 6) rfl) ?_
 refine rq_le (Le.cut (i := 0) ((xs.length - 1) * 1) rfl) ?_
 (refine rq_ret rfl ?_; refine mc_ret () trivial ?_ ⟨sE ?_,trivial⟩)
 ·show AV.own 0 0 (k + (xs.length - (k + 1))) 1 = _
  rw [show k + (xs.length - (k + 1)) = xs.length - 1 by omega]
 ·rw [List.take_left' (by rw [flat_length cI (e := 1)]; have := delL_len hk;omega)]
theorem rx_delS {xs:List AL.Stmt}{m k:Nat}{x0 x1 x2:Operand}{i0:Nat}(ha0:ev (lk tsl) x0 = some (.own i0 0 m 6)) (ha1:ev (lk tsl) x1 = some (iv (k:Int))) (ha2:ev (lk tsl) x2 = some (iv ((k:Int) + 1))) (hH0:lkH hsl i0 = some (flat cStmt xs)) (hmc:MC Tryz.prog 99 [.own 0 0 m 6,iv (k:Int),iv ((k:Int) + 1)] [(0,some (flat cStmt xs))] 1 (fun _:Unit => True) (fun _ => .own 0 0 (m - 1) 6) (fun _ => [(0,some (flat cStmt (delL k xs)))])) (hM:Nat.ble (nidl + 0) big = true) (hN:Nat.blt d N = true){md':Md}[hmd:MdA md (rOs [x0,x1,x2] ++ [.inr i0]) (List.map Sum.inr (List.map Prod.fst ([(i0,some (flat cStmt (delL k xs)))]:List (Nat × Option (List AV)))) ++ [.inl d]) md'] (kk:RW Tryz.prog N all Q md' rest ⟨(d,.own i0 0 (m - 1) 6) :: tsl,wrH hsl [(i0,some (flat cStmt (delL k xs)))],nidl + 0,z0⟩):RW Tryz.prog N all Q md (⟨some d,.call ⟨.value (.func 99),#[x0,x1,x2],tys⟩,ty,pos,af,none⟩ :: rest) ⟨tsl,hsl,nidl,z0⟩:=by
 exact rx_mcallA (l := [x0,x1,x2]) [i0] 1 [(i0,some (flat cStmt (delL k xs)))] hmc (avs := [.own i0 0 m 6,iv (k : Int),iv ((k : Int) + 1)]) (by simp only [evL,ha0,ha1,ha2]) rfl hM hN (md' := md') (hmd := hmd) kk
theorem delS_c (xs:List AL.Stmt) (m k:Nat) (hm:m = xs.length) (hk:k < m) (hl:m ≤ 1048576):MC Tryz.prog 99 [.own 0 0 m 6,iv (k:Int),iv ((k:Int) + 1)] [(0,some (flat cStmt xs))] 1 (fun _:Unit => True) (fun _ => .own 0 0 (m - 1) 6) (fun _ => [(0,some (flat cStmt (delL k xs)))]):=by
 subst hm
 refine mc_start Tryz.func99 Tryz.ntmps99 ?_
 repeat' (first|(apply id_rw;first|(apply rx_slice3 (l := k) (h := k + 1) (k := xs.length);rfl;exact bnd_to rfl (by omega);exact bnd_to rfl (by omega);exact bnd_to rfl (by omega);omega;rfl)|(apply rx_sliceC (d := 22) (h := k);rfl;exact bnd_to rfl (by omega);omega;omega;rfl)|(apply rx_slice (d := 25) (l := k + 1) (h := xs.length);rfl;rfl;exact bnd_to rfl (by omega);rfl;exact if_pos (by omega);rfl)|(apply rx_appendIn (d := 26);rfl;rfl;rfl;exact sC_tail rfl rfl;omega;(rw [flat_length cStmt (e := 6),flat_length cStmt (e := 6),List.length_drop]; omega);exact spl_del hk;rfl)|(apply rx_lenC;rfl;rfl)|(apply rx_sliceCC (d := 31) (l := xs.length - 1) (h := xs.length);rfl;exact bnd_to rfl (by omega);exact bnd_to rfl (by omega);omega;rfl)|(apply rx_clear;rfl;rfl;omega;rfl;(rw [List.length_append,flat_length cStmt (e := 6),flat_length cStmt (e := 6),List.length_drop]; have := delL_len hk;omega);exact spl_clr1 hk (by omega) rfl))|refine stpb ?_|(refine stp2 ?_ ?_ <;> intro hc hq <;> try (exfalso;omega))|refine stpd ?_|fail)
 refine rq_le (Le.noroom (d := 6) rfl) ?_
 refine rq_le (Le.cut (i := 0) ((xs.length - 1) * 6) rfl) ?_
 (refine rq_ret rfl ?_; refine mc_ret () trivial ?_ ⟨sE ?_,trivial⟩)
 ·show AV.own 0 0 (k + (xs.length - (k + 1))) 6 = _
  rw [show k + (xs.length - (k + 1)) = xs.length - 1 by omega]
 ·rw [List.take_left' (by rw [flat_length cStmt (e := 6)]; have := delL_len hk;omega)]
theorem firstPoint_c (q:Prg) (k:Nat) (hk:k ≤ q.body.length) (hs:cntL q.body ≤ 1048576):PC Tryz.prog 71 [aPrg q,iv (k:Int)] (fun r => r = iv (npL (q.body.take k):Int)):=by
 have hlen := cntL_len q.body
 have hc : cntL (List.take ((k : Int).toNat - 0) (List.drop 0 q.body)) ≤ cntL q.body := by
  have h := cntL_append (q.body.take k) (q.body.drop k)
  rw [List.take_append_drop] at h
  rw [List.drop_zero,Nat.sub_zero,Int.toNat_natCast]; omega
 have hn := npL_le (List.take ((k : Int).toNat - 0) (List.drop 0 q.body))
 refine pc_start Tryz.func71 Tryz.ntmps71 ?_
 repeat' (first|(apply id_rw;(apply rx_pointsOfN;rfl;rfl;(apply pointsOfN_c <;> (omega));rfl;rfl))|refine stpb ?_|fail)
 refine rq_ret rfl ⟨?_,rfl⟩
 simp only [oneOf,List.drop_zero,Nat.sub_zero,Int.toNat_natCast]
theorem dropped_c (q:Prg) (k:Nat) (hk:k < q.body.length) (hs:cntL q.body ≤ 1048576) (ht:q.types.length ≤ 1048576):PC Tryz.prog 57 [aPrg q,iv (k:Int)] (fun r => r = aPrg (dropP q k)):=by
 have hlen := cntL_len q.body
 refine pc_start Tryz.func57 Tryz.ntmps57 ?_
 repeat' (first|(apply id_rw;first|(apply rx_ownB;rfl;(apply ownB_c <;> omega);rfl;rfl)|(apply rx_delS;rfl;rfl;rfl;(rfl);(apply delS_c <;> (first|assumption|omega));rfl;rfl))|refine stpb ?_|fail)
 refine rq_le (Le.frzC (j := 1) (i := 4) [sl cI q.types] rfl rfl (by decide)) ?_
 have e : AV.agg [sl cI q.types, .imm (q.body.length - 1) (flat cStmt (delL k q.body))] = aPrg (dropP q k) := by
  have := delL_len hk
  unfold dropP
  dsimp only [aPrg]
  unfold sl
  rw [show (delL k q.body).length = q.body.length - 1 by omega]
 rw [← e]
 exact rq_ret (l := [AV.agg [sl cI q.types,.imm (q.body.length - 1) (flat cStmt (delL k q.body))]]) rfl ⟨rfl,by rw [e]; exact Pur.pf⟩
end Go.Proofs.YtjnhlgpbojggnaaGreatDoor
namespace Go.Proofs.YtjnhlgpbojggnaaGreatDoor
open Go.AL Go.ChangeShapes Go.WideShapes Go.ChangeAt Go.RowKit
theorem RdC_bytes {w:World}{bad:Nat → Prop}{ι:Pl}{b:Nat}:∀ (bs:List UInt8) (o:Nat),¬ bad b → (∀ j,j < bs.length → w.cell? ⟨b,o + j,none⟩ = some (.int .u8 ((bs[j]!).toNat:Int))) → RdC w bad ι (flat cU bs) b o
 | [],_,_,_ => by simp only [flat,List.flatMap_nil,RdC]
 | x :: bs, o, hb, h => by
  have h0 := h 0 (by simp)
  have e : flat cU (x :: bs) = .v (.int .u8 (x.toNat : Int)) :: flat cU bs := rfl
  rw [e]
  simp only [RdC]
  refine ⟨⟨.int .u8 (x.toNat : Int),by simpa using h0,rfl,by simp only [Rd]⟩,RdC_bytes bs (o + 1) hb fun j hj => ?_⟩
  have := h (j + 1) (by simpa using hj)
  rw [show o + 1 + j = o + (j + 1) from by omega]
  simpa using this
theorem laid:laidOutB Tryz.prog = true := by kernel_rfl
theorem cells5:Tryz.prog.cellsOf 5 = 1 := by kernel_rfl
theorem bytes_in {H:Type}{enc:TypeId × Value → H}{W:World}{base:Nat}{v0:Value}{d0:DataW H}{p:List MemPlace}(hval:Value.okWide Tryz.prog W .any base 22 v0) (h0:DataW.Trod enc Tryz.prog W 0 (fun _ => true) true 22 v0 d0 p) :
  ∃ bs : List UInt8,Rd W (fun _ => False) (fun _ => none) (sl cU bs) v0 := by
 obtain ⟨a0,len,cap,rfl⟩ := okWide_slice Tryz.underlying22 hval
 obtain ⟨fuel,hf⟩ := h0
 rcases open_ints Tryz.underlying22 Tryz.underlying5 cells5 hf with ⟨hcs,hx⟩ | ⟨a,len',cap',zs,hcs,_,hl,hm,hz,hx,hcell,hwz⟩
 ·simp [Value.cells] at hcs
  obtain ⟨rfl,rfl,rfl⟩ := hcs
  refine ⟨[],?_⟩
  simp only [Rd]
  exact ⟨none,0,rfl,.inl rfl⟩
 ·simp [Value.cells] at hcs
  obtain ⟨rfl,rfl,rfl⟩ := hcs
  simp only [if_true] at hz
  refine ⟨(zs.take len).map fun n => UInt8.ofNat n.toNat,?_⟩
  have hlen : ((zs.take len).map fun n => UInt8.ofNat n.toNat).length = len := by simp;omega
  simp only [Rd]
  refine ⟨some a,cap,by rw [hlen],?_⟩
  by_cases h00 : len = 0
  ·exact .inl (by rw [hlen]; exact h00)
  ·obtain ⟨b, off, spot⟩ := a
   have hspot : spot = none := by simpa [Addr.add] using World.cell?_spot (hcell 0 (by omega))
   subst hspot
   refine .inr ⟨b,off,by rw [hlen]; exact hl,rfl,.inr ⟨fun h => h,RdC_bytes _ _ (fun h => h) fun j hj => ?_⟩⟩
   rw [hlen] at hj
   have hcj := hcell j (by omega)
   rw [Addr.add_lit] at hcj
   rw [hcj]
   have e : zs.getD j 0 = zs[j]'(by omega) := by simp [List.getD,List.getElem?_eq_getElem (show j < zs.length by omega)]
   have hw := hwz (zs[j]'(by omega)) (List.getElem_mem _)
   have hr : 0 ≤ zs[j]'(by omega) ∧ zs[j]'(by omega) ≤ 255 := by simpa [Lit.wf,IntKind.min,IntKind.max,IntKind.signed,IntKind.bits] using hw
   rw [e,getB _ _ (by rw [hlen]; exact hj)]
   simp only [List.getElem_map,List.getElem_take]
   congr 2
   simp only [UInt8.toNat_ofNat']
   omega
theorem calls_of_pcL {P:Program}{k:FuncId}{avs:List AV}(h:PC P k avs (fun r => r = bv true)){W:World}{vs:List Value}(hv:RdV W (fun _ => False) (fun _ => none) avs vs) :
  Calls P k vs.toArray W fun e W' => e = .returned (.bool true) ∧ Below W.heap.size W W' := by
 let C : Ctx := { N := 0,w0 := W,W0 := fun _ => False,X := fun _ => False,ι0 := fun _ => none,xlt := fun _ h => h.elim }
 have hbad : ∀ b, ¬ badOf C.X (fun _ => none) (lkH []) b := by
  rintro b (h | ⟨id,cs,β,h1,h2⟩)
  ·exact h
  ·cases h2
 have g : HG C (fun _ => none) (fun j => 0 ≤ j) (lkH []) W :=
  ⟨fun id cs h => by simp [lkH] at h,fun id id' cs cs' b β β' h => by simp [lkH] at h,Fr.refl _ _,fun _ _ h => h,fun _ _ => rfl⟩
 have hcar : Carry W (fun _ => False) (fun _ => none) W (badOf C.X (fun _ => none) (lkH [])) (fun _ => none) := ⟨fun b o x _ h2 => ⟨hbad b,h2⟩,fun _ _ h => h,fun _ => Nat.le_refl _⟩
 refine (h C _ W vs rfl rfl g (RdV.carry hcar _ _ hv)).mono ?_
 rintro e W' ⟨v'',r,H',ι',rfl,⟨rfl,_⟩,h4,h5⟩
 simp only [Rd] at h4
 subst h4
 have f := h5.fr
 exact ⟨rfl,f.os,f.tape,f.output,f.size,fun b hb => f.block b hb (fun h => h)⟩
end Go.Proofs.YtjnhlgpbojggnaaGreatDoor
namespace Go.Proofs.YtjnhlgpbojggnaaGreatDoor
open Go.AL Go.RowKit
variable {N : Nat} {Q : Exit → AS → Prop} {all : Array Oper} {rest : List Oper} {tsl : List (Nat × AV)} {hsl : List (Nat × Option (List AV))} {nidl : Nat} {z0 : Lo} {md : Md} {d : Nat} {ty : TypeId} {pos : String} {af : Array Edge} {tys : Array TypeId}
def smD : ByteArray := ⟨#[48,49,50,51,52,53,54,55,56,57,97,98,99,100,101,102,103,104,105,106,107,108,109,110,111,112,113,114,115,116,117,118,119,120,121,122]⟩
def smS : ByteArray := ⟨((List.range 100).flatMap fun k => [UInt8.ofNat (48 + k / 10),UInt8.ofNat (48 + k % 10)]).toArray⟩
theorem sm1':∀ k:Nat,k < 10 → smD.extract (k:Int).toNat ((k:Int) + 1).toNat = dec2F k := by decide +kernel
theorem sm2':∀ k:Nat,k < 100 → 10 ≤ k → smS.extract ((k:Int) * 2).toNat ((k:Int) * 2 + 2).toNat = dec2F k := by decide +kernel
theorem sm1 {C:ByteArray}(hC:C = smD) (n:Int) (h0:0 ≤ n) (h1:n < 10):C.extract n.toNat (n + 1).toNat = dec2F n:=by
 subst hC
 obtain ⟨k,rfl⟩ := Int.eq_ofNat_of_zero_le h0
 exact sm1' k (by omega)
theorem sm2 {C:ByteArray}(hC:C = smS) (n:Int) (h0:10 ≤ n) (h1:n ≤ 99):C.extract (n * 2).toNat (n * 2 + 2).toNat = dec2F n:=by
 subst hC
 obtain ⟨k,rfl⟩ := Int.eq_ofNat_of_zero_le (by omega : 0 ≤ n)
 exact sm2' k (by omega) (by omega)
instance : CaT Tryz.prog 294:=⟨by kernel_rfl⟩
instance : CaT Tryz.prog 259:=⟨by kernel_rfl⟩
instance : CaT Tryz.prog 198:=⟨by kernel_rfl⟩
theorem small_c (n:Int) (h0:0 ≤ n) (h1:n ≤ 99):PC Tryz.prog 294 [iv n] (fun r => r = sv (dec2F n)):=by
 refine pc_start Tryz.func294 Tryz.ntmps294 ?_
 repeat' (first|(apply id_rw;first|(apply rx_sliceS (d := 8);rfl;exact bnd_pos rfl (by omega);exact bnd_pos rfl (by omega);exact ⟨by omega,Nat.le_trans (m := 36) (by omega) (by decide)⟩;rfl)|(apply rx_sliceS (d := 14);rfl;exact bnd_pos rfl (by omega);exact bnd_pos rfl (by omega);exact ⟨by omega,Nat.le_trans (m := 200) (by omega) (by decide +kernel)⟩;rfl))|refine stpb ?_|(refine stp2 ?_ ?_ <;> intro hc hq <;> try (exfalso;omega))|fail)
 ·refine rq_ret rfl ⟨?_, rfl⟩
  exact congrArg (fun b => AV.v (.string b)) (sm1 rfl n h0 (by omega))
 ·refine rq_ret rfl ⟨?_, rfl⟩
  exact congrArg (fun b => AV.v (.string b)) (sm2 (by decide +kernel) n (by omega) h1)
theorem letterI_c (v:Int) (h0:0 ≤ v) (h1:v ≤ 25):PC Tryz.prog 203 [iv v] (fun r => r = sv (letF v)):=by
 refine pc_start Tryz.func203 Tryz.ntmps203 ?_
 repeat' (first|(apply id_rw;first|(apply rx_b2s (ns := [_]);rfl;rfl;rfl)|(apply rx_convU;rfl;omega;rfl))|refine stpb ?_|refine stpr ?_|fail)
 exact ⟨rfl,rfl⟩
theorem fmtInt_c (n:Int) (h0:0 ≤ n) (h1:n ≤ 99):PC Tryz.prog 259 [iv n,iv 10] (fun r => r = sv (dec2F n)):=by
 have hs := small_c n h0 h1
 refine pc_start Tryz.func259 Tryz.ntmps259 ?_
 repeat' (first|(apply id_rw;(apply rx_callE (k := 294);rfl;exact hs;(rfl);rfl))|refine stpb ?_|(refine stp2 ?_ ?_ <;> intro hc hq <;> try (exfalso;omega))|(refine stp3 ?_ ?_ <;> intro hg hq <;> try (exfalso;omega))|fail)
 all_goals first
  | exact rq_ret rfl ⟨rfl,rfl⟩
  | (exfalso;omega)
  | (exfalso;exact (by assumption : ¬ True) trivial)
theorem itoa0_c (n:Int) (h0:0 ≤ n) (h1:n ≤ 99):PC Tryz.prog 198 [iv n] (fun r => r = sv (dec2F n)):=by
 have hs := fmtInt_c n h0 h1
 refine pc_start Tryz.func198 Tryz.ntmps198 ?_
 repeat' (first|(apply id_rw;(apply rx_callE (k := 259);rfl;exact hs;(rfl);rfl))|refine stpb ?_|fail)
 exact rq_ret rfl ⟨rfl,rfl⟩
theorem itoa_c (n:Int) (h0:0 ≤ n) (h1:n ≤ 99):PC Tryz.prog 133 [iv n] (fun r => r = sv (dec2F n)):=by
 have hs := itoa0_c n h0 h1
 refine pc_start Tryz.func133 Tryz.ntmps133 ?_
 repeat' (first|(apply id_rw;(apply rx_callE (k := 198);rfl;exact hs;(rfl);rfl))|refine stpb ?_|fail)
 exact rq_ret rfl ⟨rfl,rfl⟩
theorem simpleText_c (o x y n:Int) (ho:1 ≤ o ∧ o ≤ 8) (hx:0 ≤ x ∧ x ≤ 5) (hy:0 ≤ y ∧ y ≤ 5) (hn:0 ≤ n ∧ n ≤ 9):PC Tryz.prog 138 [aStmt (.mk o x y n [] [])] (fun r => r = sv (textS (.mk o x y n [] []))):=by
 have hi := itoa_c n hn.1 (by omega)
 have hlx := letterI_c x hx.1 (by omega)
 have hly := letterI_c y hy.1 (by omega)
 rw [show dec2F n = decF n from if_pos hn.2] at hi
 have hd := decF_size n
 refine pc_start Tryz.func138 Tryz.ntmps138 ?_
 repeat' (first|(apply id_rw;first|(apply rx_callE (k := 133);rfl;exact hi;(rfl);rfl)|(apply rx_callE (k := 203);rfl;exact hlx;(rfl);rfl)|(apply rx_callE (k := 203);rfl;exact hly;(rfl);rfl)|(apply rx_sbin;rfl;rfl;(rfl);rfl))|refine stpb ?_|(refine stp2 ?_ ?_ <;> intro hc hq <;> try (exfalso;omega))|refine stpd ?_|fail)
 all_goals (refine rq_ret rfl ⟨?_,rfl⟩; rw [textS_def]; (repeat' split))
 all_goals (first|rfl|(simp only [AL.Stmt.op] at *; omega))
theorem ptI_c (x:Pnt) (h:pkB x):PC Tryz.prog 183 [aPnt x] (fun r => r = sv (ptT x)):=by
 rcases h with h|h|h | ⟨h1,h2,h3,h4,h5,h6,h7,h8⟩
 ·have e : ptT x = ⟨#[105, 102]⟩ := by unfold ptT; rw [if_neg (by omega), if_pos h]
  rw [e]
  refine pc_start Tryz.func183 Tryz.ntmps183 ?_
  repeat' (first|refine stpb ?_|(refine stp2 ?_ ?_ <;> intro hc hq <;> try (exfalso;omega))|fail)
  all_goals first|exact rq_ret rfl ⟨rfl,rfl⟩|(exfalso;omega)
 ·have e : ptT x = if x.n = 1 then ⟨#[103, 111]⟩ else ⟨#[108, 111, 111, 112]⟩ := by unfold ptT; rw [if_neg (by omega), if_neg (by omega), if_pos h]
  rw [e]
  refine pc_start Tryz.func183 Tryz.ntmps183 ?_
  repeat' (first|refine stpb ?_|(refine stp2 ?_ ?_ <;> intro hc hq <;> try (exfalso;omega))|(refine stp3 ?_ ?_ <;> intro hg hq <;> try (exfalso;omega))|fail)
  all_goals first|(refine rq_ret rfl ⟨?_,rfl⟩; rw [if_pos (by omega)]; rfl)|(refine rq_ret rfl ⟨?_,rfl⟩; rw [if_neg (by omega)]; rfl)|(exfalso;omega)
 ·have e : ptT x = ⟨#[101, 110, 100]⟩ := by unfold ptT; rw [if_pos h]
  rw [e]
  refine pc_start Tryz.func183 Tryz.ntmps183 ?_
  repeat' (first|refine stpb ?_|(refine stp2 ?_ ?_ <;> intro hc hq <;> try (exfalso;omega))|fail)
  all_goals first|exact rq_ret rfl ⟨rfl,rfl⟩|(exfalso;omega)
 ·have e : ptT x = textS (.mk x.op x.x x.y x.n [] []) := by unfold ptT; rw [if_neg (by omega), if_neg (by omega), if_neg (by omega)]
  rw [e]
  have hs := simpleText_c x.op x.x x.y x.n ⟨h1,h2⟩ ⟨h3,h4⟩ ⟨h5,h6⟩ ⟨h7,h8⟩
  refine pc_start Tryz.func183 Tryz.ntmps183 ?_
  repeat' (first|(apply id_rw;first|(apply rx_callE (k := 138);rfl;exact hs;(rfl);rfl)|(apply rx_callE (k := 35);rfl;(apply within_c);(rfl);rfl))|refine stpb ?_|(refine stp2 ?_ ?_ <;> intro hc hq <;> try (exfalso;omega))|(refine stp3 ?_ ?_ <;> intro hg hq <;> try (exfalso;omega))|fail)
  all_goals first|exact rq_ret rfl ⟨rfl,rfl⟩|(exfalso;omega)
theorem issueText1_c (ts:List Int) (bd:List AL.Stmt) (pts:List Pnt) (a:Nat) (w:Int) (ha:a < pts.length) (hl:pts.length ≤ 99) (hp:pkB pts[a]!) (hw:0 ≤ w ∧ w ≤ 25):PC Tryz.prog 184 [aG ts bd pts,aIss ⟨(a:Int),1,w⟩] (fun r => r = sv (issT pts ⟨(a:Int),1,w⟩)):=by
 have h1 := itoa_c (a : Int) (by omega) (by omega)
 have h2 := ptI_c pts[a]! hp
 have h3 := letterI_c w hw.1 hw.2
 have z1 := dec2F_size (a : Int)
 have z2 := ptT_size pts[a]!
 have z3 := letF_size w
 refine pc_start Tryz.func184 Tryz.ntmps184 ?_
 repeat' (first|(apply id_rw;first|(apply rx_callE (k := 133);rfl;exact h1;(rfl);rfl)|(apply rx_callE (k := 183);rfl;exact h2;exact Pur.pf;rfl)|(apply rx_callE (k := 203);rfl;exact h3;(rfl);rfl)|(apply rx_sbin;rfl;rfl;(exact sadd_ok (by (simp only [ByteArray.size_append,bsz_lit,List.length_cons,List.length_nil,letF_size,decF_size,bytF_size] <;> omega)));rfl))|refine stpb ?_|refine stpd ?_|fail)
 all_goals first
  | exact rq_ret rfl ⟨rfl,rfl⟩
  | (exfalso;omega)
  | (exfalso;exact (by assumption : ¬ True) trivial)
theorem issueText2_c (ts:List Int) (bd:List AL.Stmt) (pts:List Pnt) (a l:Nat) (k:Int) (hk:k ≠ 1) (ha:a < pts.length) (hll:l < pts.length) (hl:pts.length ≤ 99) (hp:pkB pts[a]!) (hq:pkB pts[l]!):PC Tryz.prog 184 [aG ts bd pts,aIss ⟨(a:Int),k,(l:Int)⟩] (fun r => r = sv (issT pts ⟨(a:Int),k,(l:Int)⟩)):=by
 have h1 := itoa_c (a : Int) (by omega) (by omega)
 have h2 := ptI_c pts[a]! hp
 have h3 := itoa_c (l : Int) (by omega) (by omega)
 have h4 := ptI_c pts[l]! hq
 have z1 := dec2F_size (a : Int)
 have z2 := ptT_size pts[a]!
 have z3 := dec2F_size (l : Int)
 have z4 := ptT_size pts[l]!
 have e : issT pts ⟨(a : Int),k,(l : Int)⟩ = ((((((dec2F (a : Int) ++ ⟨#[32]⟩) ++ ptT pts[a]!) ++ ⟨#[58,32]⟩) ++ ⟨#[108,111,97,110,32,111,102,32]⟩) ++ dec2F (l : Int)) ++ ⟨#[32]⟩) ++ ptT pts[l]! := if_neg hk
 rw [e]
 refine pc_start Tryz.func184 Tryz.ntmps184 ?_
 repeat' (first|(apply id_rw;first|(apply rx_callE (k := 133);rfl;exact h1;(rfl);rfl)|(apply rx_callE (k := 183);rfl;exact h2;exact Pur.pf;rfl)|(apply rx_callE (k := 133);rfl;exact h3;(rfl);rfl)|(apply rx_callE (k := 183);rfl;exact h4;exact Pur.pf;rfl)|(apply rx_sbin;rfl;rfl;(exact sadd_ok (by (simp only [ByteArray.size_append,bsz_lit,List.length_cons,List.length_nil,letF_size,decF_size,bytF_size] <;> omega)));rfl))|refine stpb ?_|(refine stp2 ?_ ?_ <;> intro hc hq <;> try (exfalso;omega))|refine stpd ?_|fail)
 all_goals first
  | exact rq_ret rfl ⟨rfl,rfl⟩
  | (exfalso;omega)
  | (exfalso;exact (by assumption : ¬ True) trivial)
def FI (q : Prg) (L : List Iss) : Prop := PC Tryz.prog 67 [aPrg q] (fun r => r = sl cIss L) ∧ (∃ f : Flows q.types (ptsF q),L = f.iss) ∧ L.length ≤ 1048576
theorem FI.ex (q:Prg) (hs:cntL q.body ≤ 1048576) (hl:q.types.length ≤ 1048576) (hv:validF q = true):∃ L,FI q L ∧ (∀ x ∈ L,0 ≤ x.point) ∧ (q.body = [] → L = []):=by
 have w := WG.of_valid hv
 obtain ⟨f⟩ := Flows.ex w
 have e : chkF q f = f.iss := if_pos hv
 refine ⟨f.iss,⟨by rw [← e]; exact CheckI_c q f hl hs,⟨f,rfl⟩,Nat.le_trans (iss_len' w f) (by decide)⟩,fun x hx => ?_,fun hb => iss_empty hb f⟩
 obtain ⟨k,hk,e2⟩ := List.getElem_of_mem hx
 have h := (iss_ok w f).1 k hk
 rw [getB _ _ hk,e2] at h
 exact h.1
def rgN (n : Nat) : List Int := (List.range n).map (fun (i : Nat) => (i : Int))
theorem rgN_succ (n:Nat):rgN (n + 1) = rgN n ++ [(n:Int)] := by unfold rgN;rw [List.range_succ,List.map_append]; rfl
theorem rgN_len (n:Nat):(rgN n).length = n := by simp [rgN]
theorem rgN_lf (n:Nat):rgN n = lfN n []:=by
 unfold rgN lfN;rw [List.filter_eq_self.2 (fun i _ => by simp)]
theorem repairI_c (p:Prg) (hv:validF p = true) (hl:p.types.length ≤ 1048576) (hs:cntL p.body ≤ 1048576) (Q:Prg) (M:List Int) (hR:RepS FI p (lfN p.body.length []) [] Q M):PC Tryz.prog 31 [aPrg p] (fun r => r = .tup [aPrg Q,sl cI M]):=by
 have hval := validI_c p hl (by omega)
 rw [hv] at hval
 have hown := ownP_c p hs hl
 have hlen := cntL_len p.body
 refine pc_start Tryz.func31 Tryz.ntmps31 ?_
 repeat' (first|(apply id_rw;first|(apply rx_callE (k := 17);rfl;exact hval;exact Pur.pf;rfl)|(apply rx_callE (k := 69);rfl;exact hown;exact Pur.pf;rfl)|(apply rx_assignNil (d := 5) (e := 1);rfl;rfl)|(apply rx_assignNil (d := 6) (e := 1);rfl;rfl))|refine stpb ?_|fail)
 refine aw_loopA (σ := Nat × List Int) [2,4,6,19] [4,2,1,0] (fun k => [(20,iv (k.1 : Int)),(5,.own 3 0 k.1 1)]) (fun k => [(3,some (flat cI k.2))]) (fun k => k.1 ≤ p.body.length ∧ k.2 = rgN k.1) (fun k => p.body.length - k.1) (0,[]) ⟨Nat.zero_le _,rfl⟩ ?_
 rintro ⟨k,u⟩ ⟨hk,hu⟩
 dsimp only at hk hu
 try dsimp only
 have hrn := rgN_len k
 rw [← hu] at hrn
 have hrs := rgN_succ k
 by_cases hkn : k < p.body.length
 ·repeat' (first | (apply id_rw; (apply rx_buildSliceI (t := _);rfl;rfl;rfl;exact (rfl:_=some [_]);rfl;rfl)) | refine stpb ?_ | (refine stp2 ?_ ?_ <;> intro hc hq <;> try (exfalso; omega))|fail)
  (refine ex3 (k + 1,_) (Le.renA [(0,0),(1,1),(2,2),(4,4),(3,6)]) ?_ ?_)
  ·exact ⟨hkn,by dsimp only;rw [hrs,hu]⟩
  ·show p.body.length - (k + 1) < p.body.length - k;omega
 ·obtain rfl : k = p.body.length := by omega
  subst hu
  repeat' (first|refine stpb ?_|(refine stp2 ?_ ?_ <;> intro hc hq <;> try (exfalso;omega))|fail)
  refine aw_loopA (σ := List AL.Stmt × List Int × List Int × Nat × Nat) [2,4] [1,0] (fun s => [(5,.own 3 0 s.2.2.2.1 1),(6,.own 4 0 s.2.2.2.2 1)]) (fun s => [(2,some [sl cI p.types,sl cStmt s.1]),(3,some (flat cI s.2.1)),(4,some (flat cI s.2.2.1))]) (fun s => RepS FI ⟨p.types,s.1⟩ s.2.1 s.2.2.1 Q M ∧ s.2.1.length = s.1.length ∧ validF ⟨p.types,s.1⟩ = true ∧ cntL s.1 ≤ cntL p.body ∧ s.2.2.2.1 = s.2.1.length ∧ s.2.2.2.2 = s.2.2.1.length ∧ s.2.2.1.length + s.1.length = p.body.length) (fun s => s.1.length) (p.body,rgN p.body.length,[],p.body.length,0) ⟨by rw [rgN_lf]; exact hR,hrn,hv,Nat.le_refl _,hrn.symm,rfl,Nat.zero_add _⟩ ?_
  rintro ⟨b,l,m,ln,mn⟩ ⟨hR1,h1,h2,h3,h4,h5,h6⟩
  dsimp only at hR1 h1 h2 h3 h4 h5 h6
  try dsimp only
  rcases hR1.inv with ⟨hF,rfl,rfl⟩ | ⟨x,L,k,hF,hk,hr⟩
  ·have hfi := FirstI2_c ⟨p.types, b⟩ [] hF.1
   repeat' (first|(apply id_rw;(apply rx_callE (k := 70);rfl;exact hfi;exact Pur.pf;rfl))|refine stpb ?_|fail)
   refine rq_le (Le.frzD (d := 3) (i := 4) rfl rfl) ?_
   refine rq_ret (l := [.agg [sl cI p.types,sl cStmt b],.imm mn (flat cI M)]) rfl ⟨?_,(by exact Pur.pf)⟩
   simp only [oneOf,sl,h5]
  ·have hfi : PC Tryz.prog 70 [aPrg ⟨p.types, b⟩] (fun r => r = .tup [aIss x, bv true]) := FirstI2_c ⟨p.types, b⟩ (x :: L) hF.1
   have hkl := hk.lt
   dsimp only at hkl
   have hx0 : 0 ≤ x.point := by have := hk.lo;omega
   have hbl := cntL_len b
   repeat' (first|(apply id_rw;(apply rx_callE (k := 70);rfl;exact hfi;exact Pur.pf;rfl))|refine stpb ?_|fail)
   refine aw_loopA (σ := Nat) [2,4,5,6,8] [5,4,3,2,1,0] (fun j => [(10,iv (j : Int))]) (fun j => []) (fun j => j < b.length ∧ (npL (b.take j) : Int) ≤ x.point) (fun j => b.length - j) (0) ⟨by omega,by simpa [npL] using hx0⟩ ?_
   intro j ⟨hj,hjx⟩
   have hdr : PC Tryz.prog 57 [aPrg ⟨p.types,b⟩,iv (j : Int)] (fun r => r = .agg [sl cI p.types,sl cStmt (delL j b)]) := dropped_c ⟨p.types,b⟩ j hj (by show cntL b ≤ _; omega) hl
   by_cases hjn : j + 1 < b.length
   ·have hfp : PC Tryz.prog 71 [aPrg ⟨p.types, b⟩, iv ((j : Int) + 1)] (fun r => r = iv (npL (b.take (j + 1)) : Int)) := firstPoint_c ⟨p.types, b⟩ (j + 1) (by show j + 1 ≤ b.length; omega) (by show cntL b ≤ _; omega)
    repeat' (first|(apply id_rw;first|(apply rx_callE (k := 71);rfl;exact hfp;exact Pur.pf;rfl)|(apply rx_callE (k := 57);rfl;exact hdr;exact Pur.pf;rfl)|(apply rx_delI;rfl;rfl;rfl;(rfl);(apply delI_c <;> (first|assumption|omega));rfl;rfl))|refine stpb ?_|(refine stp2 ?_ ?_ <;> intro hc hq <;> try (exfalso;omega))|(refine stp3 ?_ ?_ <;> intro hg hq <;> try (exfalso;omega))|refine stpd ?_|fail)
    ·(refine ex3 (j + 1) (Le.renA [(0, 0), (1, 1), (2, 2), (3, 3), (4, 4), (5, 5)]) ?_ ?_)
     ·exact ⟨hjn,by assumption⟩
     ·omega
    ·have e : j = k := AtS.uniq ⟨hj, hjx, fun _ => by assumption⟩ hk
     subst e
     (refine ex3 (delL j b,delL j l,m ++ [l[j]!],ln - 1,mn + 1) (Le.renA [(0,0),(1,1),(2,2),(3,3),(4,7)]) ?_ ?_)
     ·have d1 := delL_len (k := j) (xs := b) hj
      have d2 := delL_len (k := j) (xs := l) (by omega)
      have d3 := cntL_delL b j
      exact ⟨hr,by dsimp only;omega,dropP_valid h2,by dsimp only;omega,by dsimp only;omega,by simp [h5],by simp;omega⟩
     ·have d1 := delL_len (k := j) (xs := b) hj
      dsimp only;omega
   ·repeat' (first | (apply id_rw; first | (apply rx_callE (k := 57);rfl;exact hdr;exact Pur.pf;rfl) | (apply rx_delI;rfl;rfl;rfl;(rfl);(apply delI_c <;> (first | assumption | omega));rfl;rfl)) | refine stpb ?_ | (refine stp3 ?_ ?_ <;> intro hg hq <;> try (exfalso; omega)) | refine stpd ?_|fail)
    have e : j = k := AtS.uniq ⟨hj,hjx,fun h => absurd h hjn⟩ hk
    subst e
    (refine ex3 (delL j b,delL j l,m ++ [l[j]!],ln - 1,mn + 1) (Le.renA [(0,0),(1,1),(2,2),(3,3),(4,7)]) ?_ ?_)
    ·have d1 := delL_len (k := j) (xs := b) hj
     have d2 := delL_len (k := j) (xs := l) (by omega)
     have d3 := cntL_delL b j
     exact ⟨hr,by dsimp only;omega,dropP_valid h2,by dsimp only;omega,by dsimp only;omega,by simp [h5],by simp;omega⟩
    ·have d1 := delL_len (k := j) (xs := b) hj
     dsimp only;omega
theorem textS_9 {s:AL.Stmt}(h:s.op = 9):textS s = (((⟨#[105,102,123]⟩ ++ textL s.th) ++ ⟨#[125,123]⟩) ++ textL s.el) ++ ⟨#[125]⟩ := by rw [textS_def]; simp [h]
theorem textS_10 {s:AL.Stmt}(h:s.op = 10):textS s = (⟨#[108,111,111,112,123]⟩ ++ textL s.th) ++ ⟨#[125]⟩ := by rw [textS_def]; simp [h]
theorem joinS_c (l:List AL.Stmt) (hc:cntL l ≤ 10000):PC Tryz.prog 139 [sl cS (l.map textS),sv ⟨#[59]⟩] (fun r => r = sv (textL l)):=by
 have h := pc_join (P := Tryz.prog) (k := 139) (fun a c sep w => Tryz.strings_Join_none a c sep w) (fun bk o c xs sep w h1 h2 h3 h4 h5 => Tryz.strings_Join bk o c xs sep w h1 h2 h3 h4 h5) (l.map textS) ⟨#[59]⟩
  (by have := cntL_len l; simp; omega) (by
   have e := textL_data l
   have hs := textL_size l
   rw [List.map_map]
   show (Lib.join (l.map fun s => (textS s).data.toList) [59]).length ≤ _
   rw [← e,Array.length_toList]
   show (textL l).size ≤ _
   omega)
 rw [textL_join]
 exact h
theorem stmtsI_c0 (l:List AL.Stmt) (hc:cntL l ≤ 10000)
  (hst : ∀ k,k < l.length → ¬ (l[k]!.op = 9 ∨ l[k]!.op = 10) → PC Tryz.prog 138 [aStmt l[k]!] (fun r => r = sv (textS l[k]!)))
  (hth : ∀ k,k < l.length → l[k]!.op = 9 ∨ l[k]!.op = 10 → PC Tryz.prog 88 [sl cStmt l[k]!.th] (fun r => r = sv (textL l[k]!.th))) (hel : ∀ k,k < l.length → l[k]!.op = 9 → PC Tryz.prog 88 [sl cStmt l[k]!.el] (fun r => r = sv (textL l[k]!.el))) : PC Tryz.prog 88 [sl cStmt l] (fun r => r = sv (textL l)) := by
 have hlen := cntL_len l
 have hj := joinS_c l hc
 refine pc_start Tryz.func88 Tryz.ntmps88 ?_
 repeat' (first|refine stpb ?_|fail)
 refine AW.le ?_ (Le.nilOwn (d := 3) 1 rfl (by decide))
 refine aw_loopA (σ := Nat × List ByteArray × Nat) [6,7] [] (fun k => [(8,iv (k.1 : Int)),(3,.own 0 0 k.2.2 1)]) (fun k => [(0,some (flat cS k.2.1))]) (fun k => k.1 ≤ l.length ∧ k.2.1 = (l.take k.1).map textS ∧ k.2.2 = k.1) (fun k => l.length - k.1) (0,[],0) ⟨Nat.zero_le _,rfl,rfl⟩ ?_
 rintro ⟨k,xs,m⟩ ⟨hk,hxs,hm⟩
 dsimp only at hk hxs hm ⊢
 have hxl : xs.length = m := by rw [hxs,hm]; simp;omega
 by_cases hkn : k < l.length
 ·have k1 := textL_size l[k]!.th
  have k2 := textL_size l[k]!.el
  have k3 := textS_size l[k]!
  have hck := cntL_at l k hkn
  have hct := cnt_th l[k]!
  have hst' := hst k hkn
  have hth' := hth k hkn
  have hel' := hel k hkn
  have hsuc : (l.take (k + 1)).map textS = xs ++ [textS l[k]!] := by rw [take_succB l k hkn,List.map_append,hxs]; rfl
  repeat' (first|(apply id_rw;first|(apply rx_callE (k := 138);rfl;(apply hst' <;> omega);exact Pur.pf;rfl)|(apply rx_callE (k := 88);rfl;(first|(apply hth' <;> omega)|(apply hel' <;> omega));exact Pur.pf;rfl)|(apply rx_sbin;rfl;rfl;(exact sadd_ok (by (simp only [ByteArray.size_append,bsz_lit,List.length_cons,List.length_nil,letF_size,decF_size,bytF_size] <;> omega)));rfl)|(apply rx_append;rfl;rfl;rfl;rfl;rfl;(rw [flat_length]; omega);(rfl);omega;omega;(exact app_str (by (omega)));rfl;rfl)|(apply rx_buildSliceI (t := _);rfl;rfl;rfl;exact (rfl:_=some [_]);rfl;rfl))|refine stpb ?_|(refine stp2 ?_ ?_ <;> intro hc hq <;> try (exfalso;omega))|refine stpd ?_|fail)
  ·(refine ex3 (k + 1, _, m + 1) (Le.renA [(0, 3)]) ?_ ?_)
   ·refine ⟨by dsimp only; omega, ?_, by dsimp only; omega⟩
    dsimp only;rw [hsuc]; first|rw [textS_9 hq]|rw [textS_10 hq]
   ·dsimp only;omega
  ·(refine ex3 (k + 1, _, m + 1) (Le.renA [(0, 3)]) ?_ ?_)
   ·refine ⟨by dsimp only; omega, ?_, by dsimp only; omega⟩
    dsimp only;rw [hsuc]; first|rw [textS_9 hq]|rw [textS_10 hq]
   ·dsimp only;omega
  ·(refine ex3 (k + 1, _, m + 1) (Le.renA [(0, 3)]) ?_ ?_)
   ·exact ⟨by dsimp only;omega,hsuc.symm,by dsimp only;omega⟩
   ·dsimp only;omega
 ·have hke : k = l.length := by omega
  have e : xs = l.map textS := by rw [hxs,List.take_of_length_le (by omega)]
  have hj' : PC Tryz.prog 139 [.imm m (flat cS xs),sv ⟨#[59]⟩] (fun r => r = sv (textL l)) := by rw [← hxl,e]; exact hj
  repeat' (first|(apply id_rw;(apply rx_lendE (k := 139);(case ha => rfl);(case hl => (repeat' (first|exact lendL_nil|apply lendL_cons|exact lendV_v|exact lendV_own rfl inferInstance)));(case h => exact hj');(case hfr|hN => rfl);(case hmd => infer_instance)))|refine stpb ?_|(refine stp2 ?_ ?_ <;> intro hc hq <;> try (exfalso;omega))|fail)
  exact rq_ret rfl ⟨rfl,rfl⟩
theorem okS_simple {ts:List Int}(ht:typesOk ts = true){d:Nat}{s:AL.Stmt}(h:okS ts d s = true) (h9:¬ (s.op = 9 ∨ s.op = 10)):s.th = [] ∧ s.el = [] ∧ (1 ≤ s.op ∧ s.op ≤ 8) ∧ (0 ≤ s.x ∧ s.x ≤ 5) ∧ (0 ≤ s.y ∧ s.y ≤ 5) ∧ (0 ≤ s.n ∧ s.n ≤ 9):=by
 rw [okS_def,if_pos (by omega)] at h
 simp only [Bool.and_eq_true,List.isEmpty_iff] at h
 obtain ⟨⟨h1,h2⟩,h⟩ := h
 have hb := simple_bd ht h
 have hn := simple_n h
 exact ⟨h1,h2,⟨hb.1,hb.2.1⟩,⟨hb.2.2.1,hb.2.2.2.1⟩,⟨hb.2.2.2.2.1,hb.2.2.2.2.2.1⟩,hn⟩
theorem okS_in {ts:List Int}{d:Nat}{s:AL.Stmt}(h:okS ts d s = true) (h9:s.op = 9 ∨ s.op = 10):∃ d',okL ts d' s.th = true ∧ okL ts d' s.el = true:=by
 rw [okS_def,if_neg (by omega)] at h
 cases d with
 | zero => cases h
 | succ d => simp only [Bool.and_eq_true] at h;exact ⟨d,h.1.2,h.2⟩
theorem stmtsI_n {ts:List Int}(ht:typesOk ts = true) (mm:Nat):∀ (d:Nat) (l:List AL.Stmt),cntL l ≤ mm → mm ≤ 10000 → okL ts d l = true → PC Tryz.prog 88 [sl cStmt l] (fun r => r = sv (textL l)):=by
 induction mm using Nat.strongRecOn with
 | ind mm ih =>
  intro d l hc hm h
  have hk : ∀ k,k < l.length → okS ts d l[k]! = true := fun k hk => by rw [okL_eq,all_iff] at h;exact h k hk
  refine stmtsI_c0 l (by omega) (fun k hk1 h9 => ?_) (fun k hk1 h9 => ?_) (fun k hk1 h9 => ?_)
  ·obtain ⟨q1, q2, q3, q4, q5, q6⟩ := okS_simple ht (hk k hk1) h9
   generalize l[k]! = s at *
   cases s with
   | mk o x y n th el =>
    simp only [AL.Stmt.th,AL.Stmt.el,AL.Stmt.op,AL.Stmt.x,AL.Stmt.y,AL.Stmt.n] at q1 q2 q3 q4 q5 q6
    subst q1 q2
    exact simpleText_c o x y n q3 q4 q5 q6
  ·obtain ⟨d', h1, _⟩ := okS_in (hk k hk1) h9
   have := cntL_at l k hk1
   have := cnt_th l[k]!
   exact ih (mm - 1) (by omega) d' _ (by omega) (by omega) h1
  ·obtain ⟨d', _, h2⟩ := okS_in (hk k hk1) (.inl h9)
   have := cntL_at l k hk1
   have := cnt_th l[k]!
   exact ih (mm - 1) (by omega) d' _ (by omega) (by omega) h2
theorem stmtsI_c {ts:List Int}(ht:typesOk ts = true){d:Nat}{l:List AL.Stmt}(hc:cntL l ≤ 10000) (h:okL ts d l = true):PC Tryz.prog 88 [sl cStmt l] (fun r => r = sv (textL l)) := stmtsI_n ht _ d l (Nat.le_refl _) hc h
theorem progText_c (p:Prg) (hv:validF p = true):PC Tryz.prog 48 [aPrg p] (fun r => r = sv (bA (tP p))):=by
 unfold validF at hv
 simp only [Bool.and_eq_true,decide_eq_true_eq] at hv
 obtain ⟨⟨h1,h2⟩,h3⟩ := hv
 have htl := typesOk_len h1
 have hb := stmtsI_c h1 (by omega) h2
 have hsz := textL_size p.body
 have hz4 : (⟨#[105,98,114,109]⟩ : ByteArray).size = 4 := rfl
 refine pc_start Tryz.func48 Tryz.ntmps48 ?_
 repeat' (first|refine stpb ?_|fail)
 refine aw_loopA (σ := Nat) [1,7,8] [0] (fun k => [(9,iv (k : Int)),(3,sv (bA ((p.types.take k).map tyB)))]) (fun k => []) (fun k => k ≤ p.types.length) (fun k => p.types.length - k) (0) (Nat.zero_le _) ?_
 intro k hk
 have hsz2 : (bA ((p.types.take k).map tyB)).size ≤ 6 := by rw [bA_size,List.length_map,List.length_take]; omega
 by_cases hkn : k < p.types.length
 ·have ht := typesOk_at h1 k hkn
  have hsl : (⟨#[105, 98, 114, 109]⟩ : ByteArray).extract (p.types[k]! - 1).toNat (p.types[k]! - 1 + 1).toNat = bA [tyB p.types[k]!] := by
   have h14 : p.types[k]! = 1 ∨ p.types[k]! = 2 ∨ p.types[k]! = 3 ∨ p.types[k]! = 4 := by omega
   rcases h14 with e|e|e|e <;> rw [e] <;> rfl
  have hsz3 : ((⟨#[105,98,114,109]⟩ : ByteArray).extract (p.types[k]! - 1).toNat (p.types[k]! - 1 + 1).toNat).size = 1 := by rw [hsl]; rfl
  have ekk : List.map tyB (p.types.take k) ++ [tyB p.types[k]!] = List.map tyB (p.types.take (k + 1)) := by rw [take_succB p.types k hkn,List.map_append]; rfl
  repeat' (first|(apply id_rw;first|(apply rx_sbin;rfl;rfl;(exact sadd_ok (by (omega)));rfl)|(apply rx_sliceS;rfl;(exact bnd_pos rfl (by omega));(exact bnd_pos rfl (by omega));omega;rfl))|refine stpb ?_|(refine stp2 ?_ ?_ <;> intro hc hq <;> try (exfalso;omega))|fail)
  rw [hsl,bA_app,ekk]
  (refine ex3 (k + 1) (Le.renA [(0,0)]) ?_ ?_)
  ·exact hkn
  ·omega
 ·repeat' (first | (apply id_rw; first | (apply rx_callE (k := 88);rfl;exact hb;exact Pur.pf;rfl) | (apply rx_sbin;rfl;rfl;(exact sadd_ok (by (simp only [ByteArray.size_append, bsz_lit, List.length_cons, List.length_nil, letF_size, decF_size, bytF_size] <;> omega)));rfl)) | refine stpb ?_ | (refine stp2 ?_ ?_ <;> intro hc hq <;> try (exfalso; omega))|fail)
  have hke : k = p.types.length := by omega
  refine rq_ret rfl ⟨?_,rfl⟩
  show sv (bA (List.map tyB (List.take k p.types)) ++ bA [58] ++ bA (tL p.body)) = _
  rw [bA_app,bA_app,hke,List.take_length,List.append_assoc]; rfl
instance : CaT Tryz.prog 300:=⟨by kernel_rfl⟩
instance : CaT Tryz.prog 293:=⟨by kernel_rfl⟩
theorem hasP_c (s t:List UInt8) (hs:s.length ≤ 100000) (ht:t.length ≤ 1000):PC Tryz.prog 300 [sv (bA s),sv (bA t)] (fun r => r = bv (t.isPrefixOf s)):=by
 have e := pfx_eq t s
 have z1 := bA_size s
 have z2 := bA_size t
 have e1 : (bA s).extract 0 (bA t).size = bA (s.take t.length) := by rw [bA_size,bA_take]
 by_cases h : t.length ≤ s.length
 ·rw [decide_eq_true h, Bool.true_and, ← e1] at e
  refine pc_start Tryz.func300 Tryz.ntmps300 ?_
  repeat' (first|(apply id_rw;first|(apply rx_sbin;rfl;rfl;(rfl);rfl)|(apply rx_sliceS;rfl;(rfl);(rfl);omega;rfl))|refine stpb ?_|(refine stp3 ?_ ?_ <;> intro hg hq <;> try (exfalso;omega))|fail)
  exact rq_ret rfl ⟨congrArg bv e,rfl⟩
 ·rw [decide_eq_false h, Bool.false_and] at e
  rw [← e]
  refine pc_start Tryz.func300 Tryz.ntmps300 ?_
  repeat' (first|refine stpb ?_|(refine stp3 ?_ ?_ <;> intro hg hq <;> try (exfalso;omega))|fail)
  exact rq_ret rfl ⟨rfl,rfl⟩
theorem cutP0_c (s t:List UInt8) (hs:s.length ≤ 100000) (ht:t.length ≤ 1000):PC Tryz.prog 293 [sv (bA s),sv (bA t)] (fun r => r = .tup [sv (bA (if t.isPrefixOf s = true then s.drop t.length else s)),bv (t.isPrefixOf s)]):=by
 have hp := hasP_c s t hs ht
 have z1 := bA_size s
 have z2 := bA_size t
 cases hb : t.isPrefixOf s with
 | true =>
  have hl := (List.isPrefixOf_iff_prefix.1 hb).length_le
  rw [hb] at hp
  rw [if_pos rfl]
  have e1 : (bA s).extract (bA t).size (bA s).size = bA (s.drop t.length) := by rw [bA_size,bA_size,bA_drop]
  rw [← e1]
  refine pc_start Tryz.func293 Tryz.ntmps293 ?_
  repeat' (first|(apply id_rw;first|(apply rx_callE (k := 300);rfl;exact hp;(rfl);rfl)|(apply rx_sliceS;rfl;(rfl);(rfl);omega;rfl))|refine stpb ?_|fail)
  exact rq_ret rfl ⟨rfl,rfl⟩
 | false =>
  rw [hb] at hp
  rw [if_neg (by simp)]
  refine pc_start Tryz.func293 Tryz.ntmps293 ?_
  repeat' (first|(apply id_rw;(apply rx_callE (k := 300);rfl;exact hp;(rfl);rfl))|refine stpb ?_|fail)
  exact rq_ret rfl ⟨rfl,rfl⟩
theorem cutP_c (s t:List UInt8) (hs:s.length ≤ 100000) (ht:t.length ≤ 1000):PC Tryz.prog 257 [sv (bA s),sv (bA t)] (fun r => r = .tup [sv (bA (if t.isPrefixOf s = true then s.drop t.length else s)),bv (t.isPrefixOf s)]):=by
 have hp := cutP0_c s t hs ht
 refine pc_start Tryz.func257 Tryz.ntmps257 ?_
 repeat' (first|(apply id_rw;(apply rx_callE (k := 293);rfl;exact hp;(rfl);rfl))|refine stpb ?_|fail)
 exact rq_ret rfl ⟨rfl,rfl⟩
theorem rx_hasT {s t r:List UInt8}{b:Bool}{x0 x1:Operand}{i0:Nat}(ha0:ev (lk tsl) x0 = some (.optr i0 0)) (ha1:ev (lk tsl) x1 = some (sv (bA t))) (hH0:lkH hsl i0 = some ([sv (bA s),bv b])) (hmc:MC Tryz.prog 194 [.optr 0 0,sv (bA t)] [(0,some ([sv (bA s),bv b]))] 1 (fun _:Unit => True) (fun _ => bv true) (fun _ => [(0,some ([sv (bA r),bv b]))])) (hM:Nat.ble (nidl + 0) big = true) (hN:Nat.blt d N = true){md':Md}[hmd:MdA md (rOs [x0,x1] ++ [.inr i0]) (List.map Sum.inr (List.map Prod.fst ([(i0,some ([sv (bA r),bv b]))]:List (Nat × Option (List AV)))) ++ [.inl d]) md'] (kk:RW Tryz.prog N all Q md' rest ⟨(d,bv true) :: tsl,wrH hsl [(i0,some ([sv (bA r),bv b]))],nidl + 0,z0⟩):RW Tryz.prog N all Q md (⟨some d,.call ⟨.value (.func 194),#[x0,x1],tys⟩,ty,pos,af,none⟩ :: rest) ⟨tsl,hsl,nidl,z0⟩:=by
 exact rx_mcallA (l := [x0,x1]) [i0] 1 [(i0,some ([sv (bA r),bv b]))] hmc (avs := [.optr i0 0,sv (bA t)]) (by simp only [evL,ha0,ha1]) rfl hM hN (md' := md') (hmd := hmd) kk
theorem rx_hasF {s t:List UInt8}{b:Bool}{x0 x1:Operand}{i0:Nat}(ha0:ev (lk tsl) x0 = some (.optr i0 0)) (ha1:ev (lk tsl) x1 = some (sv (bA t))) (hH0:lkH hsl i0 = some ([sv (bA s),bv b])) (hmc:MC Tryz.prog 194 [.optr 0 0,sv (bA t)] [(0,some ([sv (bA s),bv b]))] 1 (fun _:Unit => True) (fun _ => bv false) (fun _ => [(0,some ([sv (bA s),bv b]))])) (hM:Nat.ble (nidl + 0) big = true) (hN:Nat.blt d N = true){md':Md}[hmd:MdA md (rOs [x0,x1] ++ [.inr i0]) (List.map Sum.inr (List.map Prod.fst ([(i0,some ([sv (bA s),bv b]))]:List (Nat × Option (List AV)))) ++ [.inl d]) md'] (kk:RW Tryz.prog N all Q md' rest ⟨(d,bv false) :: tsl,wrH hsl [(i0,some ([sv (bA s),bv b]))],nidl + 0,z0⟩):RW Tryz.prog N all Q md (⟨some d,.call ⟨.value (.func 194),#[x0,x1],tys⟩,ty,pos,af,none⟩ :: rest) ⟨tsl,hsl,nidl,z0⟩:=by
 exact rx_mcallA (l := [x0,x1]) [i0] 1 [(i0,some ([sv (bA s),bv b]))] hmc (avs := [.optr i0 0,sv (bA t)]) (by simp only [evL,ha0,ha1]) rfl hM hN (md' := md') (hmd := hmd) kk
theorem hasT_c (s t r:List UInt8) (b:Bool) (h:s = t ++ r) (hs:s.length ≤ 100000) (ht:t.length ≤ 1000):MC Tryz.prog 194 [.optr 0 0,sv (bA t)] [(0,some ([sv (bA s),bv b]))] 1 (fun _:Unit => True) (fun _ => bv true) (fun _ => [(0,some ([sv (bA r),bv b]))]):=by
 have hb : t.isPrefixOf s = true := by rw [h,List.isPrefixOf_iff_prefix]; exact List.prefix_append _ _
 have hp := cutP_c s t hs ht
 rw [hb,if_pos rfl,h,List.drop_left] at hp
 rw [h]
 refine mc_start Tryz.func194 Tryz.ntmps194 ?_
 repeat' (first|(apply id_rw;(apply rx_callE (k := 257);rfl;exact hp;(rfl);rfl))|refine stpb ?_|fail)
 (refine rq_ret rfl ?_; refine mc_ret () trivial ?_ ⟨sE ?_,trivial⟩)
 ·rfl
 ·rfl
theorem hasF_c (s t:List UInt8) (b:Bool) (h:t.isPrefixOf s = false) (hs:s.length ≤ 100000) (ht:t.length ≤ 1000):MC Tryz.prog 194 [.optr 0 0,sv (bA t)] [(0,some ([sv (bA s),bv b]))] 1 (fun _:Unit => True) (fun _ => bv false) (fun _ => [(0,some ([sv (bA s),bv b]))]):=by
 have hp := cutP_c s t hs ht
 rw [h,if_neg (by simp)] at hp
 refine mc_start Tryz.func194 Tryz.ntmps194 ?_
 repeat' (first|(apply id_rw;(apply rx_callE (k := 257);rfl;exact hp;(rfl);rfl))|refine stpb ?_|fail)
 (refine rq_ret rfl ?_; refine mc_ret () trivial ?_ ⟨sE ?_,trivial⟩)
 ·rfl
 ·rfl
theorem rx_rskip {s t r:List UInt8}{x0 x1:Operand}{i0:Nat}(ha0:ev (lk tsl) x0 = some (.optr i0 0)) (ha1:ev (lk tsl) x1 = some (sv (bA t))) (hH0:lkH hsl i0 = some ([sv (bA s),bv false])) (hmc:MC Tryz.prog 254 [.optr 0 0,sv (bA t)] [(0,some ([sv (bA s),bv false]))] 1 (fun _:Unit => True) (fun _ => .tup []) (fun _ => [(0,some ([sv (bA r),bv false]))])) (hM:Nat.ble (nidl + 0) big = true) (hN:Nat.blt d N = true){md':Md}[hmd:MdA md (rOs [x0,x1] ++ [.inr i0]) (List.map Sum.inr (List.map Prod.fst ([(i0,some ([sv (bA r),bv false]))]:List (Nat × Option (List AV)))) ++ [.inl d]) md'] (kk:RW Tryz.prog N all Q md' rest ⟨(d,.tup []) :: tsl,wrH hsl [(i0,some ([sv (bA r),bv false]))],nidl + 0,z0⟩):RW Tryz.prog N all Q md (⟨some d,.call ⟨.value (.func 254),#[x0,x1],tys⟩,ty,pos,af,none⟩ :: rest) ⟨tsl,hsl,nidl,z0⟩:=by
 exact rx_mcallA (l := [x0,x1]) [i0] 1 [(i0,some ([sv (bA r),bv false]))] hmc (avs := [.optr i0 0,sv (bA t)]) (by simp only [evL,ha0,ha1]) rfl hM hN (md' := md') (hmd := hmd) kk
theorem rskip_c (s t r:List UInt8) (h:s = t ++ r) (hs:s.length ≤ 100000) (ht:t.length ≤ 1000):MC Tryz.prog 254 [.optr 0 0,sv (bA t)] [(0,some ([sv (bA s),bv false]))] 1 (fun _:Unit => True) (fun _ => .tup []) (fun _ => [(0,some ([sv (bA r),bv false]))]):=by
 have hh := hasT_c s t r false h hs ht
 refine mc_start Tryz.func254 Tryz.ntmps254 ?_
 repeat' (first|(apply id_rw;(apply rx_hasT (s := s) (t := t) (r := r) (b := false);rfl;rfl;rfl;exact hh;rfl;rfl))|refine stpb ?_|fail)
 refine rq_end (l := []) rfl ?_
 refine mc_ret () trivial ?_ ⟨sE ?_,trivial⟩
 ·rfl
 ·rfl
theorem rx_rfrom {c:UInt8}{r:List UInt8}{f:Int}{m:Int}{x0 x1 x2:Operand}{i0:Nat}(ha0:ev (lk tsl) x0 = some (.optr i0 0)) (ha1:ev (lk tsl) x1 = some (.v (.int .u8 f))) (ha2:ev (lk tsl) x2 = some (iv m)) (hH0:lkH hsl i0 = some ([sv (bA (c :: r)),bv false])) (hmc:MC Tryz.prog 292 [.optr 0 0,.v (.int .u8 f),iv m] [(0,some ([sv (bA (c :: r)),bv false]))] 1 (fun _:Unit => True) (fun _ => iv ((c.toNat:Int) - f)) (fun _ => [(0,some ([sv (bA r),bv false]))])) (hM:Nat.ble (nidl + 0) big = true) (hN:Nat.blt d N = true){md':Md}[hmd:MdA md (rOs [x0,x1,x2] ++ [.inr i0]) (List.map Sum.inr (List.map Prod.fst ([(i0,some ([sv (bA r),bv false]))]:List (Nat × Option (List AV)))) ++ [.inl d]) md'] (kk:RW Tryz.prog N all Q md' rest ⟨(d,iv ((c.toNat:Int) - f)) :: tsl,wrH hsl [(i0,some ([sv (bA r),bv false]))],nidl + 0,z0⟩):RW Tryz.prog N all Q md (⟨some d,.call ⟨.value (.func 292),#[x0,x1,x2],tys⟩,ty,pos,af,none⟩ :: rest) ⟨tsl,hsl,nidl,z0⟩:=by
 exact rx_mcallA (l := [x0,x1,x2]) [i0] 1 [(i0,some ([sv (bA r),bv false]))] hmc (avs := [.optr i0 0,.v (.int .u8 f),iv m]) (by simp only [evL,ha0,ha1,ha2]) rfl hM hN (md' := md') (hmd := hmd) kk
theorem rfrom_c (c:UInt8) (r:List UInt8) (f m:Int) (h0:0 ≤ f) (h1:f ≤ c.toNat) (h2:(c.toNat:Int) - f < m) (hm:m ≤ 255) (hr:r.length ≤ 100000):MC Tryz.prog 292 [.optr 0 0,.v (.int .u8 f),iv m] [(0,some ([sv (bA (c :: r)),bv false]))] 1 (fun _:Unit => True) (fun _ => iv ((c.toNat:Int) - f)) (fun _ => [(0,some ([sv (bA r),bv false]))]):=by
 have hb0 : (c.toNat : Int) ≤ 255 := by have := c.toNat_lt;omega
 have z1 := bA_size (c :: r)
 rw [List.length_cons] at z1
 have e0 : ((bA (c :: r))[Int.toNat 0]!.toNat : Int) = c.toNat := rfl
 have hw : IntKind.i64.wrap (IntKind.u8.wrap (((bA (c :: r))[Int.toNat 0]!.toNat : Int) - f)) = c.toNat - f := by
  rw [e0,u8_in _ ⟨by omega,by omega⟩]; exact IntWalk.i64_in _ ⟨by omega,by omega⟩
 have hne : ((bA (c :: r)).toList == (⟨#[]⟩ : ByteArray).toList) = false := by
  show ((bA (c :: r)).toList == (bA []).toList) = false
  rw [bA_toList,bA_toList]; rfl
 have hx : (bA (c :: r)).extract (Int.toNat 1) (bA (c :: r)).size = bA r := by rw [bA_size]; exact bA_drop (c :: r) 1
 refine mc_start Tryz.func292 Tryz.ntmps292 ?_
 repeat' (first|(apply id_rw;first|(apply rx_sbin;rfl;rfl;(rfl);rfl)|(apply rx_indexS;rfl;rfl;omega;rfl)|(apply rx_sliceS;rfl;(rfl);(rfl);omega;rfl)|(apply rx_subU;rfl;rfl;omega;rfl))|refine stpb ?_|(refine stp2 ?_ ?_ <;> intro hc hq <;> try (exfalso;omega))|(refine stp3 ?_ ?_ <;> intro hg hq <;> try (exfalso;omega))|fail)
 all_goals first
  | (exfalso;omega)
  | (exfalso;rw [hne] at *; contradiction)
  | ((refine rq_ret rfl ?_; refine mc_ret () trivial ?_ ⟨sE ?_, trivial⟩)
     ·(rfl)
     ·rw [← hx])
theorem rx_rvar {v:Int}{r:List UInt8}{x0:Operand}{i0:Nat}(ha0:ev (lk tsl) x0 = some (.optr i0 0)) (hH0:lkH hsl i0 = some ([sv (bA (b8 (97 + v) :: r)),bv false])) (hmc:MC Tryz.prog 255 [.optr 0 0] [(0,some ([sv (bA (b8 (97 + v) :: r)),bv false]))] 1 (fun _:Unit => True) (fun _ => iv v) (fun _ => [(0,some ([sv (bA r),bv false]))])) (hM:Nat.ble (nidl + 0) big = true) (hN:Nat.blt d N = true){md':Md}[hmd:MdA md (rOs [x0] ++ [.inr i0]) (List.map Sum.inr (List.map Prod.fst ([(i0,some ([sv (bA r),bv false]))]:List (Nat × Option (List AV)))) ++ [.inl d]) md'] (kk:RW Tryz.prog N all Q md' rest ⟨(d,iv v) :: tsl,wrH hsl [(i0,some ([sv (bA r),bv false]))],nidl + 0,z0⟩):RW Tryz.prog N all Q md (⟨some d,.call ⟨.value (.func 255),#[x0],tys⟩,ty,pos,af,none⟩ :: rest) ⟨tsl,hsl,nidl,z0⟩:=by
 exact rx_mcallA (l := [x0]) [i0] 1 [(i0,some ([sv (bA r),bv false]))] hmc (avs := [.optr i0 0]) (by simp only [evL,ha0]) rfl hM hN (md' := md') (hmd := hmd) kk
theorem rvar_c (v:Int) (r:List UInt8) (h:0 ≤ v ∧ v ≤ 5) (hr:r.length ≤ 100000):MC Tryz.prog 255 [.optr 0 0] [(0,some ([sv (bA (b8 (97 + v) :: r)),bv false]))] 1 (fun _:Unit => True) (fun _ => iv v) (fun _ => [(0,some ([sv (bA r),bv false]))]):=by
 have e := b8_nat (n := 97 + v) (by omega)
 have hf := rfrom_c (b8 (97 + v)) r 97 6 (by omega) (by omega) (by omega) (by omega) hr
 refine mc_start Tryz.func255 Tryz.ntmps255 ?_
 repeat' (first|(apply id_rw;(apply rx_rfrom (c := b8 (97 + v)) (r := r) (f := 97) (m := 6);rfl;rfl;rfl;rfl;exact hf;rfl;rfl))|refine stpb ?_|fail)
 (refine rq_ret rfl ?_; refine mc_ret () trivial ?_ ⟨sE ?_,trivial⟩)
 ·exact congrArg iv (by omega)
 ·rfl
theorem rx_rnum {v:Int}{r:List UInt8}{x0:Operand}{i0:Nat}(ha0:ev (lk tsl) x0 = some (.optr i0 0)) (hH0:lkH hsl i0 = some ([sv (bA (b8 (48 + v) :: r)),bv false])) (hmc:MC Tryz.prog 256 [.optr 0 0] [(0,some ([sv (bA (b8 (48 + v) :: r)),bv false]))] 1 (fun _:Unit => True) (fun _ => iv v) (fun _ => [(0,some ([sv (bA r),bv false]))])) (hM:Nat.ble (nidl + 0) big = true) (hN:Nat.blt d N = true){md':Md}[hmd:MdA md (rOs [x0] ++ [.inr i0]) (List.map Sum.inr (List.map Prod.fst ([(i0,some ([sv (bA r),bv false]))]:List (Nat × Option (List AV)))) ++ [.inl d]) md'] (kk:RW Tryz.prog N all Q md' rest ⟨(d,iv v) :: tsl,wrH hsl [(i0,some ([sv (bA r),bv false]))],nidl + 0,z0⟩):RW Tryz.prog N all Q md (⟨some d,.call ⟨.value (.func 256),#[x0],tys⟩,ty,pos,af,none⟩ :: rest) ⟨tsl,hsl,nidl,z0⟩:=by
 exact rx_mcallA (l := [x0]) [i0] 1 [(i0,some ([sv (bA r),bv false]))] hmc (avs := [.optr i0 0]) (by simp only [evL,ha0]) rfl hM hN (md' := md') (hmd := hmd) kk
theorem rnum_c (v:Int) (r:List UInt8) (h:0 ≤ v ∧ v ≤ 9) (hr:r.length ≤ 100000):MC Tryz.prog 256 [.optr 0 0] [(0,some ([sv (bA (b8 (48 + v) :: r)),bv false]))] 1 (fun _:Unit => True) (fun _ => iv v) (fun _ => [(0,some ([sv (bA r),bv false]))]):=by
 have e := b8_nat (n := 48 + v) (by omega)
 have hf := rfrom_c (b8 (48 + v)) r 48 10 (by omega) (by omega) (by omega) (by omega) hr
 refine mc_start Tryz.func256 Tryz.ntmps256 ?_
 repeat' (first|(apply id_rw;(apply rx_rfrom (c := b8 (48 + v)) (r := r) (f := 48) (m := 10);rfl;rfl;rfl;rfl;exact hf;rfl;rfl))|refine stpb ?_|fail)
 (refine rq_ret rfl ?_; refine mc_ret () trivial ?_ ⟨sE ?_,trivial⟩)
 ·exact congrArg iv (by omega)
 ·rfl
end Go.Proofs.YtjnhlgpbojggnaaGreatDoor
