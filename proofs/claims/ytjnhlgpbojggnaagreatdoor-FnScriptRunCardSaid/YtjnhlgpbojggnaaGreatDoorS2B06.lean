/-
 A part of the proofs over this program: rules and contracts of its functions (the contracts).
-/
import Derived.Test.YtjnhlgpbojggnaaGreatDoorS2B05
import Derived.Test.YtjnhlgpbojggnaaGreatDoorRows
import Derived.WalkKit
import Derived.ProofKit
import Derived.OpenShut
import Derived.Carry
import Derived.ChangeSlices
set_option linter.unusedVariables false
set_option linter.unusedSimpArgs false
set_option maxHeartbeats 8000000
set_option maxRecDepth 4000
attribute [local irreducible] Go.AL.RW Go.AL.AW Go.AL.Stop
namespace Go.Proofs.YtjnhlgpbojggnaaGreatDoor
open Go.AL Go.RowKit
theorem choices_c (bs:List UInt8) (p:Nat) (hb:bs.length ≤ 2000) (hp:p ≤ 10000):MC Tryz.prog 103 [.optr 0 0] [(0,some (cRd bs p))] 1 (fun x:List Int × Nat => x.1.length ≤ 8 ∧ x.2 ≤ 20000) (fun x => sl cI x.1) (fun x => [(0,some (cRd bs x.2))]):=by
 have hn := num_bd bs p [4,2,6,0,8] 0 8 (by decide) (by decide)
 refine mc_start Tryz.func103 Tryz.ntmps103 ?_
 repeat' (first|(apply id_rw;(apply rx_numO;rfl;rfl;rfl;rfl;infer_instance;rfl;(rfl);assumption;omega;(decide);(decide);rfl;rfl))|refine stpb ?_|fail)
 refine aw_loopA (σ := Int × List Int × Nat × Nat) [0] [] (fun k => [(4,iv k.1),(3,.own 1 0 k.2.2.1 1)]) (fun k => [(0,some (cRd bs k.2.2.2)),(1,some (flat cI k.2.1))]) (fun k => (0 ≤ k.1 ∧ k.1 + k.2.1.length ≤ 8) ∧ k.2.2.1 = k.2.1.length ∧ k.2.2.2 ≤ 10001 + k.2.1.length) (fun k => k.1.toNat) (numF bs p [4,2,6,0,8],[],0,p + 1) ⟨⟨hn.1,by show _ + ((0 : Nat) : Int) ≤ 8;omega⟩,rfl,by dsimp only;omega⟩ ?_
 rintro ⟨i,xs,m,p'⟩ ⟨⟨hi,hx⟩,hm,hp'⟩
 dsimp only at hi hx hm hp' ⊢
 repeat' (first|(apply id_rw;first|(apply rx_buildSliceI (t := _);rfl;rfl;rfl;(first|exact (rfl:_=some [_])|exact (rfl:_=some [_,_,_,_,_,_]));rfl;rfl)|(apply rx_num;rfl;rfl;infer_instance;rfl;(rfl);assumption;omega;(decide);(decide);rfl;rfl))|refine stpb ?_|(refine stp2 ?_ ?_ <;> intro hc hq <;> try (exfalso;omega))|fail)
 ·(refine ex3 (i - 1, xs ++ [numF bs p' [0, 1, 0, 1, -1, 2]], m + 1, p' + 1) (Le.renA [(1, 5)]) ?_ ?_)
  ·refine ⟨⟨by dsimp only; omega, ?_⟩, by dsimp only; rw [List.length_append, hm]; rfl, ?_⟩
   ·dsimp only;rw [List.length_append]; simp only [List.length_singleton]; omega
   ·dsimp only;rw [List.length_append]; simp only [List.length_singleton]; omega
  ·dsimp only;omega
 ·refine rq_le (Le.frzD (d := 2) (i := 1) rfl rfl) ?_
  refine rq_ret rfl ?_
  refine mc_ret (xs,p') ⟨by dsimp only;omega,by dsimp only;omega⟩ ?_ ⟨.inr rfl,trivial⟩
  show AV.imm m (flat cI xs) = sl cI xs
  rw [hm]
theorem rx_chcall {P:Program}{N:Nat}{Q:Exit → AS → Prop}{all:Array Oper}{rest:List Oper}{ts:List (Nat × AV)}{hs:List (Nat × Option (List AV))}{n:Nat}{z0:Lo}{ty:TypeId}{pos:String}{af:Array Edge}{d:Nat}{args:Array Operand}{tys:Array TypeId}
  {k : FuncId} {p0 : List Int × Nat → Prop} {i p : Nat} {bs : List UInt8} (h : MC P k [.optr 0 0] [(0,some (cRd bs p))] 1 p0 (fun x => sl cI x.1) (fun x => [(0,some (cRd bs x.2))])) [hc : CaT P k] (ha : evL (lk ts) args.toList = some [.optr i 0])
  (hH : lkH hs i = some (cRd bs p)) (hM : Nat.ble (n + 0) big = true) (hN : Nat.blt d N = true) (kk : ∀ x,p0 x → RW P N all Q .txt rest ⟨(d,sl cI x.1) :: ts,(i,some (cRd bs x.2)) :: hs,n + 0,z0⟩) :
  RW P N all Q .txt (⟨some d,.call ⟨.value (.func k),args,tys⟩,ty,pos,af,none⟩ :: rest) ⟨ts,hs,n,z0⟩ :=
 rx_mcall (σ := List Int × Nat) [i] 1 (fun x : List Int × Nat => [(i, some (cRd bs x.2))]) h ha rfl ⟨⟨_, _, rfl, hH, RnL.purI inferInstance⟩, trivial⟩ rfl (RnL.cons (RnV.optr rfl) .nil) (by simpa using hM)
  (fun x _ => RnV.purI inferInstance) (fun x _ => by simp [wsAll]) (fun x _ => ⟨⟨0,_,rfl,rfl,RnL.purI inferInstance⟩,trivial⟩) hN kk
theorem case7_c (bs:List UInt8) (hb:bs.length ≤ 1048576):PC Tryz.prog 63 [sl cU bs] (fun r => ∃ (q:Prg) (cs:List Int) (n:Int),r = .tup [aPrg q,sl cI cs,iv n] ∧ cntL q.body ≤ 20000 ∧ q.types.length ≤ 1000 ∧ cs.length ≤ 8 ∧ -1 ≤ n ∧ n ≤ 151):=by
 have hb2 : (bs.take 2000).length ≤ 2000 := by rw [List.length_take]; omega
 refine pc_start Tryz.func63 Tryz.ntmps63 ?_
 repeat' (first|(apply id_rw;first|(apply rx_prgcall (k := 55);exact draw_c (bs.take 2000) 0 hb2 (by decide);rfl;rfl;rfl;rfl;rfl;(rintro ⟨q,p1⟩ ⟨hq1,hq2,hq3⟩);(dsimp only at hq1 hq2 hq3))|(apply rx_prgcall (k := 54);exact mutate_c (bs.take 2000) p1 q hb2 (by omega) (by omega) (by omega);rfl;exact Pur.pf;rfl;rfl;rfl;(rintro ⟨q2,p2⟩ ⟨hr1,hr2,hr3⟩);(dsimp only at hr1 hr2 hr3))|(apply rx_chcall (k := 103);exact choices_c (bs.take 2000) p2 hb2 (by omega);rfl;rfl;rfl;rfl;(rintro ⟨cs,p3⟩ ⟨hc1,hc2⟩);(dsimp only at hc1 hc2);(have hn9 := num_bd (bs.take 2000) p3 [100,150,60,5,0,151,-1] (-1) 151 (by decide) (by decide)))|(first|(apply rx_l17Open;rfl;(apply l17Open_c <;> (assumption));rfl;rfl)|(apply rx_numO;rfl;rfl;rfl;rfl;infer_instance;rfl;(rfl);assumption;omega;(decide);(decide);rfl;rfl)))|refine stpb ?_|refine stpd ?_|fail)
 exact rq_ret (l := [aPrg q2,sl cI cs,iv (numF (bs.take 2000) p3 [100,150,60,5,0,151,-1])]) rfl ⟨⟨q2,cs,_,rfl,by omega,by omega,hc1,hn9.1,hn9.2⟩,Pur.pf⟩
theorem drawRun_c (bs:List UInt8) (hb:bs.length ≤ 1048576):PC Tryz.prog 25 [sl cU bs] (fun r => ∃ (q:Prg) (cs:List Int) (n:Int),r = .tup [aPrg q,sl cI cs,iv n] ∧ cntL q.body ≤ 20000 ∧ q.types.length ≤ 1000 ∧ cs.length ≤ 8 ∧ -1 ≤ n ∧ n ≤ 151):=by
 refine pc_start Tryz.func25 Tryz.ntmps25 ?_
 repeat' (first|(apply id_rw;(apply rx_call (k := 63);rfl;exact case7_c bs hb;exact Pur.pf;rfl;(rintro _ ⟨q,cs,n,rfl,h1,h2,h3,h4,h5⟩ _)))|refine stpb ?_|fail)
 exact rq_ret (l := [aPrg q,sl cI cs,iv n]) rfl ⟨⟨q,cs,n,rfl,h1,h2,h3,h4,h5⟩,Pur.pf⟩
def reE (p : Prg) (cs : List Int) (n : Int) : Int := if rgF p n = true then (runP p.types (ptsF p) cs n.toNat).2.1 else 5
def reA (p : Prg) (cs : List Int) (n : Int) : Int := if rgF p n = true then ((runP p.types (ptsF p) cs n.toNat).2.2 : Int) else 0
theorem runI_e (p:Prg) (cs:List Int) (n:Int) (hl:p.types.length ≤ 1048576) (hs:cntL p.body ≤ 1048576) (hcl:cs.length ≤ 1048576):PC Tryz.prog 26 [aPrg p,sl cI cs,iv n] (fun r => r = .tup [iv (reE p cs n),iv (reA p cs n)]):=by
 have h := RunProgramI_c p cs n hl hs hcl
 unfold reE reA
 split
 ·rename_i h2;rw [if_pos h2] at h;exact h
 ·rename_i h2;rw [if_neg h2] at h;exact h
theorem runS_e (p:Prg) (cs:List Int) (n:Int) (hl:p.types.length ≤ 1048576) (hs:cntL p.body ≤ 1048576) (hcl:cs.length ≤ 1048576):PC Tryz.prog 27 [aPrg p,sl cI cs,iv n] (fun r => r = .tup [iv (reE p cs n),iv (reA p cs n)]):=by
 have h := RunProgramS_c p cs n hl hs hcl
 unfold reE reA
 split
 ·rename_i h2;rw [if_pos h2] at h;exact h
 ·rename_i h2;rw [if_neg h2] at h;exact h
theorem rgF_true {p:Prg}{n:Int}:rgF p n = true ↔ validF p = true ∧ 0 ≤ n ∧ n ≤ 150:=by
 unfold rgF;simp only [Bool.and_eq_true,decide_eq_true_eq]
end Go.Proofs.YtjnhlgpbojggnaaGreatDoor
namespace Go.Proofs.YtjnhlgpbojggnaaGreatDoor
open Go.AL Go.ChangeShapes Go.WideShapes Go.ChangeAt Go.RowKit
theorem RdC_bytes {w:World}{bad:Nat → Prop}{ι:Pl}{b:Nat}:∀ (bs:List UInt8) (o:Nat),¬ bad b → (∀ j,j < bs.length → w.cell? ⟨b,o + j,none⟩ = some (.int .u8 ((bs[j]!).toNat:Int))) → RdC w bad ι (flat cU bs) b o
 | [],_,_,_ => by simp only [flat,List.flatMap_nil,RdC]
 | x :: bs, o, hb, h => by
  have h0 := h 0 (by simp)
  have e : flat cU (x :: bs) = .v (.int .u8 (x.toNat : Int)) :: flat cU bs := rfl
  rw [e]
  simp only [RdC]
  refine ⟨⟨.int .u8 (x.toNat : Int),by simpa using h0,rfl,by simp only [Rd]⟩,RdC_bytes bs (o + 1) hb fun j hj => ?_⟩
  have := h (j + 1) (by simpa using hj)
  rw [show o + 1 + j = o + (j + 1) from by omega]
  simpa using this
theorem laid:laidOutB Tryz.prog = true := by kernel_rfl
theorem cells5:Tryz.prog.cellsOf 5 = 1 := by kernel_rfl
theorem bytes_in {H:Type}{enc:TypeId × Value → H}{W:World}{base:Nat}{v0:Value}{d0:DataW H}{p:List MemPlace}(hval:Value.okWide Tryz.prog W .any base 22 v0) (h0:DataW.Trod enc Tryz.prog W 0 (fun _ => true) true 22 v0 d0 p) :
  ∃ bs : List UInt8,Rd W (fun _ => False) (fun _ => none) (sl cU bs) v0 := by
 obtain ⟨a0,len,cap,rfl⟩ := okWide_slice Tryz.underlying22 hval
 obtain ⟨fuel,hf⟩ := h0
 rcases open_ints Tryz.underlying22 Tryz.underlying5 cells5 hf with ⟨hcs,hx⟩ | ⟨a,len',cap',zs,hcs,_,hl,hm,hz,hx,hcell,hwz⟩
 ·simp [Value.cells] at hcs
  obtain ⟨rfl,rfl,rfl⟩ := hcs
  refine ⟨[],?_⟩
  simp only [Rd]
  exact ⟨none,0,rfl,.inl rfl⟩
 ·simp [Value.cells] at hcs
  obtain ⟨rfl,rfl,rfl⟩ := hcs
  simp only [if_true] at hz
  refine ⟨(zs.take len).map fun n => UInt8.ofNat n.toNat,?_⟩
  have hlen : ((zs.take len).map fun n => UInt8.ofNat n.toNat).length = len := by simp;omega
  simp only [Rd]
  refine ⟨some a,cap,by rw [hlen],?_⟩
  by_cases h00 : len = 0
  ·exact .inl (by rw [hlen]; exact h00)
  ·obtain ⟨b, off, spot⟩ := a
   have hspot : spot = none := by simpa [Addr.add] using World.cell?_spot (hcell 0 (by omega))
   subst hspot
   refine .inr ⟨b,off,by rw [hlen]; exact hl,rfl,.inr ⟨fun h => h,RdC_bytes _ _ (fun h => h) fun j hj => ?_⟩⟩
   rw [hlen] at hj
   have hcj := hcell j (by omega)
   rw [Addr.add_lit] at hcj
   rw [hcj]
   have e : zs.getD j 0 = zs[j]'(by omega) := by simp [List.getD,List.getElem?_eq_getElem (show j < zs.length by omega)]
   have hw := hwz (zs[j]'(by omega)) (List.getElem_mem _)
   have hr : 0 ≤ zs[j]'(by omega) ∧ zs[j]'(by omega) ≤ 255 := by simpa [Lit.wf,IntKind.min,IntKind.max,IntKind.signed,IntKind.bits] using hw
   rw [e,getB _ _ (by rw [hlen]; exact hj)]
   simp only [List.getElem_map,List.getElem_take]
   congr 2
   simp only [UInt8.toNat_ofNat']
   omega
theorem calls_of_pcL {P:Program}{k:FuncId}{avs:List AV}(h:PC P k avs (fun r => r = bv true)){W:World}{vs:List Value}(hv:RdV W (fun _ => False) (fun _ => none) avs vs) :
  Calls P k vs.toArray W fun e W' => e = .returned (.bool true) ∧ Below W.heap.size W W' := by
 let C : Ctx := { N := 0,w0 := W,W0 := fun _ => False,X := fun _ => False,ι0 := fun _ => none,xlt := fun _ h => h.elim }
 have hbad : ∀ b, ¬ badOf C.X (fun _ => none) (lkH []) b := by
  rintro b (h | ⟨id,cs,β,h1,h2⟩)
  ·exact h
  ·cases h2
 have g : HG C (fun _ => none) (fun j => 0 ≤ j) (lkH []) W :=
  ⟨fun id cs h => by simp [lkH] at h,fun id id' cs cs' b β β' h => by simp [lkH] at h,Fr.refl _ _,fun _ _ h => h,fun _ _ => rfl⟩
 have hcar : Carry W (fun _ => False) (fun _ => none) W (badOf C.X (fun _ => none) (lkH [])) (fun _ => none) := ⟨fun b o x _ h2 => ⟨hbad b,h2⟩,fun _ _ h => h,fun _ => Nat.le_refl _⟩
 refine (h C _ W vs rfl rfl g (RdV.carry hcar _ _ hv)).mono ?_
 rintro e W' ⟨v'',r,H',ι',rfl,⟨rfl,_⟩,h4,h5⟩
 simp only [Rd] at h4
 subst h4
 have f := h5.fr
 exact ⟨rfl,f.os,f.tape,f.output,f.size,fun b hb => f.block b hb (fun h => h)⟩
end Go.Proofs.YtjnhlgpbojggnaaGreatDoor
namespace Go.Proofs.YtjnhlgpbojggnaaGreatDoor
open Go.AL Go.RowKit
variable {N : Nat} {Q : Exit → AS → Prop} {all : Array Oper} {rest : List Oper} {tsl : List (Nat × AV)} {hsl : List (Nat × Option (List AV))} {nidl : Nat} {z0 : Lo} {md : Md} {d : Nat} {ty : TypeId} {pos : String} {af : Array Edge} {tys : Array TypeId}
def smD : ByteArray := ⟨#[48,49,50,51,52,53,54,55,56,57,97,98,99,100,101,102,103,104,105,106,107,108,109,110,111,112,113,114,115,116,117,118,119,120,121,122]⟩
def smS : ByteArray := ⟨((List.range 100).flatMap fun k => [UInt8.ofNat (48 + k / 10),UInt8.ofNat (48 + k % 10)]).toArray⟩
theorem sm1':∀ k:Nat,k < 10 → smD.extract (k:Int).toNat ((k:Int) + 1).toNat = dec2F k := by decide +kernel
theorem sm2':∀ k:Nat,k < 100 → 10 ≤ k → smS.extract ((k:Int) * 2).toNat ((k:Int) * 2 + 2).toNat = dec2F k := by decide +kernel
theorem sm1 {C:ByteArray}(hC:C = smD) (n:Int) (h0:0 ≤ n) (h1:n < 10):C.extract n.toNat (n + 1).toNat = dec2F n:=by
 subst hC
 obtain ⟨k,rfl⟩ := Int.eq_ofNat_of_zero_le h0
 exact sm1' k (by omega)
theorem sm2 {C:ByteArray}(hC:C = smS) (n:Int) (h0:10 ≤ n) (h1:n ≤ 99):C.extract (n * 2).toNat (n * 2 + 2).toNat = dec2F n:=by
 subst hC
 obtain ⟨k,rfl⟩ := Int.eq_ofNat_of_zero_le (by omega : 0 ≤ n)
 exact sm2' k (by omega) (by omega)
instance : CaT Tryz.prog 294:=⟨by kernel_rfl⟩
instance : CaT Tryz.prog 259:=⟨by kernel_rfl⟩
instance : CaT Tryz.prog 198:=⟨by kernel_rfl⟩
theorem small_c (n:Int) (h0:0 ≤ n) (h1:n ≤ 99):PC Tryz.prog 294 [iv n] (fun r => r = sv (dec2F n)):=by
 refine pc_start Tryz.func294 Tryz.ntmps294 ?_
 repeat' (first|(apply id_rw;first|(apply rx_sliceS (d := 8);rfl;exact bnd_pos rfl (by omega);exact bnd_pos rfl (by omega);exact ⟨by omega,Nat.le_trans (m := 36) (by omega) (by decide)⟩;rfl)|(apply rx_sliceS (d := 14);rfl;exact bnd_pos rfl (by omega);exact bnd_pos rfl (by omega);exact ⟨by omega,Nat.le_trans (m := 200) (by omega) (by decide +kernel)⟩;rfl))|refine stpb ?_|(refine stp2 ?_ ?_ <;> intro hc hq <;> try (exfalso;omega))|fail)
 ·refine rq_ret rfl ⟨?_, rfl⟩
  exact congrArg (fun b => AV.v (.string b)) (sm1 rfl n h0 (by omega))
 ·refine rq_ret rfl ⟨?_, rfl⟩
  exact congrArg (fun b => AV.v (.string b)) (sm2 (by decide +kernel) n (by omega) h1)
theorem letterI_c (v:Int) (h0:0 ≤ v) (h1:v ≤ 25):PC Tryz.prog 203 [iv v] (fun r => r = sv (letF v)):=by
 refine pc_start Tryz.func203 Tryz.ntmps203 ?_
 repeat' (first|(apply id_rw;first|(apply rx_b2s (ns := [_]);rfl;rfl;rfl)|(apply rx_convU;rfl;omega;rfl))|refine stpb ?_|refine stpr ?_|fail)
 exact ⟨rfl,rfl⟩
theorem fmtInt_c (n:Int) (h0:0 ≤ n) (h1:n ≤ 99):PC Tryz.prog 259 [iv n,iv 10] (fun r => r = sv (dec2F n)):=by
 have hs := small_c n h0 h1
 refine pc_start Tryz.func259 Tryz.ntmps259 ?_
 repeat' (first|(apply id_rw;(apply rx_callE (k := 294);rfl;exact hs;(rfl);rfl))|refine stpb ?_|(refine stp2 ?_ ?_ <;> intro hc hq <;> try (exfalso;omega))|(refine stp3 ?_ ?_ <;> intro hg hq <;> try (exfalso;omega))|fail)
 all_goals first
  | exact rq_ret rfl ⟨rfl,rfl⟩
  | (exfalso;omega)
  | (exfalso;exact (by assumption : ¬ True) trivial)
theorem itoa0_c (n:Int) (h0:0 ≤ n) (h1:n ≤ 99):PC Tryz.prog 198 [iv n] (fun r => r = sv (dec2F n)):=by
 have hs := fmtInt_c n h0 h1
 refine pc_start Tryz.func198 Tryz.ntmps198 ?_
 repeat' (first|(apply id_rw;(apply rx_callE (k := 259);rfl;exact hs;(rfl);rfl))|refine stpb ?_|fail)
 exact rq_ret rfl ⟨rfl,rfl⟩
theorem itoa_c (n:Int) (h0:0 ≤ n) (h1:n ≤ 99):PC Tryz.prog 133 [iv n] (fun r => r = sv (dec2F n)):=by
 have hs := itoa0_c n h0 h1
 refine pc_start Tryz.func133 Tryz.ntmps133 ?_
 repeat' (first|(apply id_rw;(apply rx_callE (k := 198);rfl;exact hs;(rfl);rfl))|refine stpb ?_|fail)
 exact rq_ret rfl ⟨rfl,rfl⟩
theorem simpleText_c (o x y n:Int) (ho:1 ≤ o ∧ o ≤ 8) (hx:0 ≤ x ∧ x ≤ 5) (hy:0 ≤ y ∧ y ≤ 5) (hn:0 ≤ n ∧ n ≤ 9):PC Tryz.prog 138 [aStmt (.mk o x y n [] [])] (fun r => r = sv (textS (.mk o x y n [] []))):=by
 have hi := itoa_c n hn.1 (by omega)
 have hlx := letterI_c x hx.1 (by omega)
 have hly := letterI_c y hy.1 (by omega)
 rw [show dec2F n = decF n from if_pos hn.2] at hi
 have hd := decF_size n
 refine pc_start Tryz.func138 Tryz.ntmps138 ?_
 repeat' (first|(apply id_rw;first|(apply rx_callE (k := 133);rfl;exact hi;(rfl);rfl)|(apply rx_callE (k := 203);rfl;exact hlx;(rfl);rfl)|(apply rx_callE (k := 203);rfl;exact hly;(rfl);rfl)|(apply rx_sbin;rfl;rfl;(rfl);rfl))|refine stpb ?_|(refine stp2 ?_ ?_ <;> intro hc hq <;> try (exfalso;omega))|refine stpd ?_|fail)
 all_goals (refine rq_ret rfl ⟨?_,rfl⟩; rw [textS_def]; (repeat' split))
 all_goals (first|rfl|(simp only [AL.Stmt.op] at *; omega))
theorem textS_9 {s:AL.Stmt}(h:s.op = 9):textS s = (((⟨#[105,102,123]⟩ ++ textL s.th) ++ ⟨#[125,123]⟩) ++ textL s.el) ++ ⟨#[125]⟩ := by rw [textS_def]; simp [h]
theorem textS_10 {s:AL.Stmt}(h:s.op = 10):textS s = (⟨#[108,111,111,112,123]⟩ ++ textL s.th) ++ ⟨#[125]⟩ := by rw [textS_def]; simp [h]
theorem joinS_c (l:List AL.Stmt) (hc:cntL l ≤ 10000):PC Tryz.prog 139 [sl cS (l.map textS),sv ⟨#[59]⟩] (fun r => r = sv (textL l)):=by
 have h := pc_join (P := Tryz.prog) (k := 139) (fun a c sep w => Tryz.strings_Join_none a c sep w) (fun bk o c xs sep w h1 h2 h3 h4 h5 => Tryz.strings_Join bk o c xs sep w h1 h2 h3 h4 h5) (l.map textS) ⟨#[59]⟩
  (by have := cntL_len l; simp; omega) (by
   have e := textL_data l
   have hs := textL_size l
   rw [List.map_map]
   show (Lib.join (l.map fun s => (textS s).data.toList) [59]).length ≤ _
   rw [← e,Array.length_toList]
   show (textL l).size ≤ _
   omega)
 rw [textL_join]
 exact h
theorem stmtsI_c0 (l:List AL.Stmt) (hc:cntL l ≤ 10000)
  (hst : ∀ k,k < l.length → ¬ (l[k]!.op = 9 ∨ l[k]!.op = 10) → PC Tryz.prog 138 [aStmt l[k]!] (fun r => r = sv (textS l[k]!)))
  (hth : ∀ k,k < l.length → l[k]!.op = 9 ∨ l[k]!.op = 10 → PC Tryz.prog 88 [sl cStmt l[k]!.th] (fun r => r = sv (textL l[k]!.th))) (hel : ∀ k,k < l.length → l[k]!.op = 9 → PC Tryz.prog 88 [sl cStmt l[k]!.el] (fun r => r = sv (textL l[k]!.el))) : PC Tryz.prog 88 [sl cStmt l] (fun r => r = sv (textL l)) := by
 have hlen := cntL_len l
 have hj := joinS_c l hc
 refine pc_start Tryz.func88 Tryz.ntmps88 ?_
 repeat' (first|refine stpb ?_|fail)
 refine AW.le ?_ (Le.nilOwn (d := 3) 1 rfl (by decide))
 refine aw_loopA (σ := Nat × List ByteArray × Nat) [6,7] [] (fun k => [(8,iv (k.1 : Int)),(3,.own 0 0 k.2.2 1)]) (fun k => [(0,some (flat cS k.2.1))]) (fun k => k.1 ≤ l.length ∧ k.2.1 = (l.take k.1).map textS ∧ k.2.2 = k.1) (fun k => l.length - k.1) (0,[],0) ⟨Nat.zero_le _,rfl,rfl⟩ ?_
 rintro ⟨k,xs,m⟩ ⟨hk,hxs,hm⟩
 dsimp only at hk hxs hm ⊢
 have hxl : xs.length = m := by rw [hxs,hm]; simp;omega
 by_cases hkn : k < l.length
 ·have k1 := textL_size l[k]!.th
  have k2 := textL_size l[k]!.el
  have k3 := textS_size l[k]!
  have hck := cntL_at l k hkn
  have hct := cnt_th l[k]!
  have hst' := hst k hkn
  have hth' := hth k hkn
  have hel' := hel k hkn
  have hsuc : (l.take (k + 1)).map textS = xs ++ [textS l[k]!] := by rw [take_succB l k hkn,List.map_append,hxs]; rfl
  repeat' (first|(apply id_rw;first|(apply rx_callE (k := 138);rfl;(apply hst' <;> omega);exact Pur.pf;rfl)|(apply rx_callE (k := 88);rfl;(first|(apply hth' <;> omega)|(apply hel' <;> omega));exact Pur.pf;rfl)|(apply rx_sbin;rfl;rfl;(exact sadd_ok (by (simp only [ByteArray.size_append,bsz_lit,List.length_cons,List.length_nil,letF_size,decF_size,bytF_size] <;> omega)));rfl)|(apply rx_append;rfl;rfl;rfl;rfl;rfl;(rw [flat_length]; omega);(rfl);omega;omega;(exact app_str (by (omega)));rfl;rfl)|(apply rx_buildSliceI (t := _);rfl;rfl;rfl;exact (rfl:_=some [_]);rfl;rfl))|refine stpb ?_|(refine stp2 ?_ ?_ <;> intro hc hq <;> try (exfalso;omega))|refine stpd ?_|fail)
  ·(refine ex3 (k + 1, _, m + 1) (Le.renA [(0, 3)]) ?_ ?_)
   ·refine ⟨by dsimp only; omega, ?_, by dsimp only; omega⟩
    dsimp only;rw [hsuc]; first|rw [textS_9 hq]|rw [textS_10 hq]
   ·dsimp only;omega
  ·(refine ex3 (k + 1, _, m + 1) (Le.renA [(0, 3)]) ?_ ?_)
   ·refine ⟨by dsimp only; omega, ?_, by dsimp only; omega⟩
    dsimp only;rw [hsuc]; first|rw [textS_9 hq]|rw [textS_10 hq]
   ·dsimp only;omega
  ·(refine ex3 (k + 1, _, m + 1) (Le.renA [(0, 3)]) ?_ ?_)
   ·exact ⟨by dsimp only;omega,hsuc.symm,by dsimp only;omega⟩
   ·dsimp only;omega
 ·have hke : k = l.length := by omega
  have e : xs = l.map textS := by rw [hxs,List.take_of_length_le (by omega)]
  have hj' : PC Tryz.prog 139 [.imm m (flat cS xs),sv ⟨#[59]⟩] (fun r => r = sv (textL l)) := by rw [← hxl,e]; exact hj
  repeat' (first|(apply id_rw;(apply rx_lendE (k := 139);(case ha => rfl);(case hl => (repeat' (first|exact lendL_nil|apply lendL_cons|exact lendV_v|exact lendV_own rfl inferInstance)));(case h => exact hj');(case hfr|hN => rfl);(case hmd => infer_instance)))|refine stpb ?_|(refine stp2 ?_ ?_ <;> intro hc hq <;> try (exfalso;omega))|fail)
  exact rq_ret rfl ⟨rfl,rfl⟩
theorem okS_simple {ts:List Int}(ht:typesOk ts = true){d:Nat}{s:AL.Stmt}(h:okS ts d s = true) (h9:¬ (s.op = 9 ∨ s.op = 10)):s.th = [] ∧ s.el = [] ∧ (1 ≤ s.op ∧ s.op ≤ 8) ∧ (0 ≤ s.x ∧ s.x ≤ 5) ∧ (0 ≤ s.y ∧ s.y ≤ 5) ∧ (0 ≤ s.n ∧ s.n ≤ 9):=by
 rw [okS_def,if_pos (by omega)] at h
 simp only [Bool.and_eq_true,List.isEmpty_iff] at h
 obtain ⟨⟨h1,h2⟩,h⟩ := h
 have hb := simple_bd ht h
 have hn := simple_n h
 exact ⟨h1,h2,⟨hb.1,hb.2.1⟩,⟨hb.2.2.1,hb.2.2.2.1⟩,⟨hb.2.2.2.2.1,hb.2.2.2.2.2.1⟩,hn⟩
theorem okS_in {ts:List Int}{d:Nat}{s:AL.Stmt}(h:okS ts d s = true) (h9:s.op = 9 ∨ s.op = 10):∃ d',okL ts d' s.th = true ∧ okL ts d' s.el = true:=by
 rw [okS_def,if_neg (by omega)] at h
 cases d with
 | zero => cases h
 | succ d => simp only [Bool.and_eq_true] at h;exact ⟨d,h.1.2,h.2⟩
theorem stmtsI_n {ts:List Int}(ht:typesOk ts = true) (mm:Nat):∀ (d:Nat) (l:List AL.Stmt),cntL l ≤ mm → mm ≤ 10000 → okL ts d l = true → PC Tryz.prog 88 [sl cStmt l] (fun r => r = sv (textL l)):=by
 induction mm using Nat.strongRecOn with
 | ind mm ih =>
  intro d l hc hm h
  have hk : ∀ k,k < l.length → okS ts d l[k]! = true := fun k hk => by rw [okL_eq,all_iff] at h;exact h k hk
  refine stmtsI_c0 l (by omega) (fun k hk1 h9 => ?_) (fun k hk1 h9 => ?_) (fun k hk1 h9 => ?_)
  ·obtain ⟨q1, q2, q3, q4, q5, q6⟩ := okS_simple ht (hk k hk1) h9
   generalize l[k]! = s at *
   cases s with
   | mk o x y n th el =>
    simp only [AL.Stmt.th,AL.Stmt.el,AL.Stmt.op,AL.Stmt.x,AL.Stmt.y,AL.Stmt.n] at q1 q2 q3 q4 q5 q6
    subst q1 q2
    exact simpleText_c o x y n q3 q4 q5 q6
  ·obtain ⟨d', h1, _⟩ := okS_in (hk k hk1) h9
   have := cntL_at l k hk1
   have := cnt_th l[k]!
   exact ih (mm - 1) (by omega) d' _ (by omega) (by omega) h1
  ·obtain ⟨d', _, h2⟩ := okS_in (hk k hk1) (.inl h9)
   have := cntL_at l k hk1
   have := cnt_th l[k]!
   exact ih (mm - 1) (by omega) d' _ (by omega) (by omega) h2
theorem stmtsI_c {ts:List Int}(ht:typesOk ts = true){d:Nat}{l:List AL.Stmt}(hc:cntL l ≤ 10000) (h:okL ts d l = true):PC Tryz.prog 88 [sl cStmt l] (fun r => r = sv (textL l)) := stmtsI_n ht _ d l (Nat.le_refl _) hc h
theorem progText_c (p:Prg) (hv:validF p = true):PC Tryz.prog 48 [aPrg p] (fun r => r = sv (bA (tP p))):=by
 unfold validF at hv
 simp only [Bool.and_eq_true,decide_eq_true_eq] at hv
 obtain ⟨⟨h1,h2⟩,h3⟩ := hv
 have htl := typesOk_len h1
 have hb := stmtsI_c h1 (by omega) h2
 have hsz := textL_size p.body
 have hz4 : (⟨#[105,98,114,109]⟩ : ByteArray).size = 4 := rfl
 refine pc_start Tryz.func48 Tryz.ntmps48 ?_
 repeat' (first|refine stpb ?_|fail)
 refine aw_loopA (σ := Nat) [1,7,8] [0] (fun k => [(9,iv (k : Int)),(3,sv (bA ((p.types.take k).map tyB)))]) (fun k => []) (fun k => k ≤ p.types.length) (fun k => p.types.length - k) (0) (Nat.zero_le _) ?_
 intro k hk
 have hsz2 : (bA ((p.types.take k).map tyB)).size ≤ 6 := by rw [bA_size,List.length_map,List.length_take]; omega
 by_cases hkn : k < p.types.length
 ·have ht := typesOk_at h1 k hkn
  have hsl : (⟨#[105, 98, 114, 109]⟩ : ByteArray).extract (p.types[k]! - 1).toNat (p.types[k]! - 1 + 1).toNat = bA [tyB p.types[k]!] := by
   have h14 : p.types[k]! = 1 ∨ p.types[k]! = 2 ∨ p.types[k]! = 3 ∨ p.types[k]! = 4 := by omega
   rcases h14 with e|e|e|e <;> rw [e] <;> rfl
  have hsz3 : ((⟨#[105,98,114,109]⟩ : ByteArray).extract (p.types[k]! - 1).toNat (p.types[k]! - 1 + 1).toNat).size = 1 := by rw [hsl]; rfl
  have ekk : List.map tyB (p.types.take k) ++ [tyB p.types[k]!] = List.map tyB (p.types.take (k + 1)) := by rw [take_succB p.types k hkn,List.map_append]; rfl
  repeat' (first|(apply id_rw;first|(apply rx_sbin;rfl;rfl;(exact sadd_ok (by (omega)));rfl)|(apply rx_sliceS;rfl;(exact bnd_pos rfl (by omega));(exact bnd_pos rfl (by omega));omega;rfl))|refine stpb ?_|(refine stp2 ?_ ?_ <;> intro hc hq <;> try (exfalso;omega))|fail)
  rw [hsl,bA_app,ekk]
  (refine ex3 (k + 1) (Le.renA [(0,0)]) ?_ ?_)
  ·exact hkn
  ·omega
 ·repeat' (first | (apply id_rw; first | (apply rx_callE (k := 88);rfl;exact hb;exact Pur.pf;rfl) | (apply rx_sbin;rfl;rfl;(exact sadd_ok (by (simp only [ByteArray.size_append, bsz_lit, List.length_cons, List.length_nil, letF_size, decF_size, bytF_size] <;> omega)));rfl)) | refine stpb ?_ | (refine stp2 ?_ ?_ <;> intro hc hq <;> try (exfalso; omega))|fail)
  have hke : k = p.types.length := by omega
  refine rq_ret rfl ⟨?_,rfl⟩
  show sv (bA (List.map tyB (List.take k p.types)) ++ bA [58] ++ bA (tL p.body)) = _
  rw [bA_app,bA_app,hke,List.take_length,List.append_assoc]; rfl
instance : CaT Tryz.prog 300:=⟨by kernel_rfl⟩
instance : CaT Tryz.prog 293:=⟨by kernel_rfl⟩
theorem hasP_c (s t:List UInt8) (hs:s.length ≤ 100000) (ht:t.length ≤ 1000):PC Tryz.prog 300 [sv (bA s),sv (bA t)] (fun r => r = bv (t.isPrefixOf s)):=by
 have e := pfx_eq t s
 have z1 := bA_size s
 have z2 := bA_size t
 have e1 : (bA s).extract 0 (bA t).size = bA (s.take t.length) := by rw [bA_size,bA_take]
 by_cases h : t.length ≤ s.length
 ·rw [decide_eq_true h, Bool.true_and, ← e1] at e
  refine pc_start Tryz.func300 Tryz.ntmps300 ?_
  repeat' (first|(apply id_rw;first|(apply rx_sbin;rfl;rfl;(rfl);rfl)|(apply rx_sliceS;rfl;(rfl);(rfl);omega;rfl))|refine stpb ?_|(refine stp3 ?_ ?_ <;> intro hg hq <;> try (exfalso;omega))|fail)
  exact rq_ret rfl ⟨congrArg bv e,rfl⟩
 ·rw [decide_eq_false h, Bool.false_and] at e
  rw [← e]
  refine pc_start Tryz.func300 Tryz.ntmps300 ?_
  repeat' (first|refine stpb ?_|(refine stp3 ?_ ?_ <;> intro hg hq <;> try (exfalso;omega))|fail)
  exact rq_ret rfl ⟨rfl,rfl⟩
theorem cutP0_c (s t:List UInt8) (hs:s.length ≤ 100000) (ht:t.length ≤ 1000):PC Tryz.prog 293 [sv (bA s),sv (bA t)] (fun r => r = .tup [sv (bA (if t.isPrefixOf s = true then s.drop t.length else s)),bv (t.isPrefixOf s)]):=by
 have hp := hasP_c s t hs ht
 have z1 := bA_size s
 have z2 := bA_size t
 cases hb : t.isPrefixOf s with
 | true =>
  have hl := (List.isPrefixOf_iff_prefix.1 hb).length_le
  rw [hb] at hp
  rw [if_pos rfl]
  have e1 : (bA s).extract (bA t).size (bA s).size = bA (s.drop t.length) := by rw [bA_size,bA_size,bA_drop]
  rw [← e1]
  refine pc_start Tryz.func293 Tryz.ntmps293 ?_
  repeat' (first|(apply id_rw;first|(apply rx_callE (k := 300);rfl;exact hp;(rfl);rfl)|(apply rx_sliceS;rfl;(rfl);(rfl);omega;rfl))|refine stpb ?_|fail)
  exact rq_ret rfl ⟨rfl,rfl⟩
 | false =>
  rw [hb] at hp
  rw [if_neg (by simp)]
  refine pc_start Tryz.func293 Tryz.ntmps293 ?_
  repeat' (first|(apply id_rw;(apply rx_callE (k := 300);rfl;exact hp;(rfl);rfl))|refine stpb ?_|fail)
  exact rq_ret rfl ⟨rfl,rfl⟩
theorem cutP_c (s t:List UInt8) (hs:s.length ≤ 100000) (ht:t.length ≤ 1000):PC Tryz.prog 257 [sv (bA s),sv (bA t)] (fun r => r = .tup [sv (bA (if t.isPrefixOf s = true then s.drop t.length else s)),bv (t.isPrefixOf s)]):=by
 have hp := cutP0_c s t hs ht
 refine pc_start Tryz.func257 Tryz.ntmps257 ?_
 repeat' (first|(apply id_rw;(apply rx_callE (k := 293);rfl;exact hp;(rfl);rfl))|refine stpb ?_|fail)
 exact rq_ret rfl ⟨rfl,rfl⟩
theorem rx_hasT {s t r:List UInt8}{b:Bool}{x0 x1:Operand}{i0:Nat}(ha0:ev (lk tsl) x0 = some (.optr i0 0)) (ha1:ev (lk tsl) x1 = some (sv (bA t))) (hH0:lkH hsl i0 = some ([sv (bA s),bv b])) (hmc:MC Tryz.prog 194 [.optr 0 0,sv (bA t)] [(0,some ([sv (bA s),bv b]))] 1 (fun _:Unit => True) (fun _ => bv true) (fun _ => [(0,some ([sv (bA r),bv b]))])) (hM:Nat.ble (nidl + 0) big = true) (hN:Nat.blt d N = true){md':Md}[hmd:MdA md (rOs [x0,x1] ++ [.inr i0]) (List.map Sum.inr (List.map Prod.fst ([(i0,some ([sv (bA r),bv b]))]:List (Nat × Option (List AV)))) ++ [.inl d]) md'] (kk:RW Tryz.prog N all Q md' rest ⟨(d,bv true) :: tsl,wrH hsl [(i0,some ([sv (bA r),bv b]))],nidl + 0,z0⟩):RW Tryz.prog N all Q md (⟨some d,.call ⟨.value (.func 194),#[x0,x1],tys⟩,ty,pos,af,none⟩ :: rest) ⟨tsl,hsl,nidl,z0⟩:=by
 exact rx_mcallA (l := [x0,x1]) [i0] 1 [(i0,some ([sv (bA r),bv b]))] hmc (avs := [.optr i0 0,sv (bA t)]) (by simp only [evL,ha0,ha1]) rfl hM hN (md' := md') (hmd := hmd) kk
theorem rx_hasF {s t:List UInt8}{b:Bool}{x0 x1:Operand}{i0:Nat}(ha0:ev (lk tsl) x0 = some (.optr i0 0)) (ha1:ev (lk tsl) x1 = some (sv (bA t))) (hH0:lkH hsl i0 = some ([sv (bA s),bv b])) (hmc:MC Tryz.prog 194 [.optr 0 0,sv (bA t)] [(0,some ([sv (bA s),bv b]))] 1 (fun _:Unit => True) (fun _ => bv false) (fun _ => [(0,some ([sv (bA s),bv b]))])) (hM:Nat.ble (nidl + 0) big = true) (hN:Nat.blt d N = true){md':Md}[hmd:MdA md (rOs [x0,x1] ++ [.inr i0]) (List.map Sum.inr (List.map Prod.fst ([(i0,some ([sv (bA s),bv b]))]:List (Nat × Option (List AV)))) ++ [.inl d]) md'] (kk:RW Tryz.prog N all Q md' rest ⟨(d,bv false) :: tsl,wrH hsl [(i0,some ([sv (bA s),bv b]))],nidl + 0,z0⟩):RW Tryz.prog N all Q md (⟨some d,.call ⟨.value (.func 194),#[x0,x1],tys⟩,ty,pos,af,none⟩ :: rest) ⟨tsl,hsl,nidl,z0⟩:=by
 exact rx_mcallA (l := [x0,x1]) [i0] 1 [(i0,some ([sv (bA s),bv b]))] hmc (avs := [.optr i0 0,sv (bA t)]) (by simp only [evL,ha0,ha1]) rfl hM hN (md' := md') (hmd := hmd) kk
theorem hasT_c (s t r:List UInt8) (b:Bool) (h:s = t ++ r) (hs:s.length ≤ 100000) (ht:t.length ≤ 1000):MC Tryz.prog 194 [.optr 0 0,sv (bA t)] [(0,some ([sv (bA s),bv b]))] 1 (fun _:Unit => True) (fun _ => bv true) (fun _ => [(0,some ([sv (bA r),bv b]))]):=by
 have hb : t.isPrefixOf s = true := by rw [h,List.isPrefixOf_iff_prefix]; exact List.prefix_append _ _
 have hp := cutP_c s t hs ht
 rw [hb,if_pos rfl,h,List.drop_left] at hp
 rw [h]
 refine mc_start Tryz.func194 Tryz.ntmps194 ?_
 repeat' (first|(apply id_rw;(apply rx_callE (k := 257);rfl;exact hp;(rfl);rfl))|refine stpb ?_|fail)
 (refine rq_ret rfl ?_; refine mc_ret () trivial ?_ ⟨sE ?_,trivial⟩)
 ·rfl
 ·rfl
theorem hasF_c (s t:List UInt8) (b:Bool) (h:t.isPrefixOf s = false) (hs:s.length ≤ 100000) (ht:t.length ≤ 1000):MC Tryz.prog 194 [.optr 0 0,sv (bA t)] [(0,some ([sv (bA s),bv b]))] 1 (fun _:Unit => True) (fun _ => bv false) (fun _ => [(0,some ([sv (bA s),bv b]))]):=by
 have hp := cutP_c s t hs ht
 rw [h,if_neg (by simp)] at hp
 refine mc_start Tryz.func194 Tryz.ntmps194 ?_
 repeat' (first|(apply id_rw;(apply rx_callE (k := 257);rfl;exact hp;(rfl);rfl))|refine stpb ?_|fail)
 (refine rq_ret rfl ?_; refine mc_ret () trivial ?_ ⟨sE ?_,trivial⟩)
 ·rfl
 ·rfl
theorem rx_rskip {s t r:List UInt8}{x0 x1:Operand}{i0:Nat}(ha0:ev (lk tsl) x0 = some (.optr i0 0)) (ha1:ev (lk tsl) x1 = some (sv (bA t))) (hH0:lkH hsl i0 = some ([sv (bA s),bv false])) (hmc:MC Tryz.prog 254 [.optr 0 0,sv (bA t)] [(0,some ([sv (bA s),bv false]))] 1 (fun _:Unit => True) (fun _ => .tup []) (fun _ => [(0,some ([sv (bA r),bv false]))])) (hM:Nat.ble (nidl + 0) big = true) (hN:Nat.blt d N = true){md':Md}[hmd:MdA md (rOs [x0,x1] ++ [.inr i0]) (List.map Sum.inr (List.map Prod.fst ([(i0,some ([sv (bA r),bv false]))]:List (Nat × Option (List AV)))) ++ [.inl d]) md'] (kk:RW Tryz.prog N all Q md' rest ⟨(d,.tup []) :: tsl,wrH hsl [(i0,some ([sv (bA r),bv false]))],nidl + 0,z0⟩):RW Tryz.prog N all Q md (⟨some d,.call ⟨.value (.func 254),#[x0,x1],tys⟩,ty,pos,af,none⟩ :: rest) ⟨tsl,hsl,nidl,z0⟩:=by
 exact rx_mcallA (l := [x0,x1]) [i0] 1 [(i0,some ([sv (bA r),bv false]))] hmc (avs := [.optr i0 0,sv (bA t)]) (by simp only [evL,ha0,ha1]) rfl hM hN (md' := md') (hmd := hmd) kk
theorem rskip_c (s t r:List UInt8) (h:s = t ++ r) (hs:s.length ≤ 100000) (ht:t.length ≤ 1000):MC Tryz.prog 254 [.optr 0 0,sv (bA t)] [(0,some ([sv (bA s),bv false]))] 1 (fun _:Unit => True) (fun _ => .tup []) (fun _ => [(0,some ([sv (bA r),bv false]))]):=by
 have hh := hasT_c s t r false h hs ht
 refine mc_start Tryz.func254 Tryz.ntmps254 ?_
 repeat' (first|(apply id_rw;(apply rx_hasT (s := s) (t := t) (r := r) (b := false);rfl;rfl;rfl;exact hh;rfl;rfl))|refine stpb ?_|fail)
 refine rq_end (l := []) rfl ?_
 refine mc_ret () trivial ?_ ⟨sE ?_,trivial⟩
 ·rfl
 ·rfl
theorem rx_rfrom {c:UInt8}{r:List UInt8}{f:Int}{m:Int}{x0 x1 x2:Operand}{i0:Nat}(ha0:ev (lk tsl) x0 = some (.optr i0 0)) (ha1:ev (lk tsl) x1 = some (.v (.int .u8 f))) (ha2:ev (lk tsl) x2 = some (iv m)) (hH0:lkH hsl i0 = some ([sv (bA (c :: r)),bv false])) (hmc:MC Tryz.prog 292 [.optr 0 0,.v (.int .u8 f),iv m] [(0,some ([sv (bA (c :: r)),bv false]))] 1 (fun _:Unit => True) (fun _ => iv ((c.toNat:Int) - f)) (fun _ => [(0,some ([sv (bA r),bv false]))])) (hM:Nat.ble (nidl + 0) big = true) (hN:Nat.blt d N = true){md':Md}[hmd:MdA md (rOs [x0,x1,x2] ++ [.inr i0]) (List.map Sum.inr (List.map Prod.fst ([(i0,some ([sv (bA r),bv false]))]:List (Nat × Option (List AV)))) ++ [.inl d]) md'] (kk:RW Tryz.prog N all Q md' rest ⟨(d,iv ((c.toNat:Int) - f)) :: tsl,wrH hsl [(i0,some ([sv (bA r),bv false]))],nidl + 0,z0⟩):RW Tryz.prog N all Q md (⟨some d,.call ⟨.value (.func 292),#[x0,x1,x2],tys⟩,ty,pos,af,none⟩ :: rest) ⟨tsl,hsl,nidl,z0⟩:=by
 exact rx_mcallA (l := [x0,x1,x2]) [i0] 1 [(i0,some ([sv (bA r),bv false]))] hmc (avs := [.optr i0 0,.v (.int .u8 f),iv m]) (by simp only [evL,ha0,ha1,ha2]) rfl hM hN (md' := md') (hmd := hmd) kk
theorem rfrom_c (c:UInt8) (r:List UInt8) (f m:Int) (h0:0 ≤ f) (h1:f ≤ c.toNat) (h2:(c.toNat:Int) - f < m) (hm:m ≤ 255) (hr:r.length ≤ 100000):MC Tryz.prog 292 [.optr 0 0,.v (.int .u8 f),iv m] [(0,some ([sv (bA (c :: r)),bv false]))] 1 (fun _:Unit => True) (fun _ => iv ((c.toNat:Int) - f)) (fun _ => [(0,some ([sv (bA r),bv false]))]):=by
 have hb0 : (c.toNat : Int) ≤ 255 := by have := c.toNat_lt;omega
 have z1 := bA_size (c :: r)
 rw [List.length_cons] at z1
 have e0 : ((bA (c :: r))[Int.toNat 0]!.toNat : Int) = c.toNat := rfl
 have hw : IntKind.i64.wrap (IntKind.u8.wrap (((bA (c :: r))[Int.toNat 0]!.toNat : Int) - f)) = c.toNat - f := by
  rw [e0,u8_in _ ⟨by omega,by omega⟩]; exact IntWalk.i64_in _ ⟨by omega,by omega⟩
 have hne : ((bA (c :: r)).toList == (⟨#[]⟩ : ByteArray).toList) = false := by
  show ((bA (c :: r)).toList == (bA []).toList) = false
  rw [bA_toList,bA_toList]; rfl
 have hx : (bA (c :: r)).extract (Int.toNat 1) (bA (c :: r)).size = bA r := by rw [bA_size]; exact bA_drop (c :: r) 1
 refine mc_start Tryz.func292 Tryz.ntmps292 ?_
 repeat' (first|(apply id_rw;first|(apply rx_sbin;rfl;rfl;(rfl);rfl)|(apply rx_indexS;rfl;rfl;omega;rfl)|(apply rx_sliceS;rfl;(rfl);(rfl);omega;rfl)|(apply rx_subU;rfl;rfl;omega;rfl))|refine stpb ?_|(refine stp2 ?_ ?_ <;> intro hc hq <;> try (exfalso;omega))|(refine stp3 ?_ ?_ <;> intro hg hq <;> try (exfalso;omega))|fail)
 all_goals first
  | (exfalso;omega)
  | (exfalso;rw [hne] at *; contradiction)
  | ((refine rq_ret rfl ?_; refine mc_ret () trivial ?_ ⟨sE ?_, trivial⟩)
     ·(rfl)
     ·rw [← hx])
theorem rx_rvar {v:Int}{r:List UInt8}{x0:Operand}{i0:Nat}(ha0:ev (lk tsl) x0 = some (.optr i0 0)) (hH0:lkH hsl i0 = some ([sv (bA (b8 (97 + v) :: r)),bv false])) (hmc:MC Tryz.prog 255 [.optr 0 0] [(0,some ([sv (bA (b8 (97 + v) :: r)),bv false]))] 1 (fun _:Unit => True) (fun _ => iv v) (fun _ => [(0,some ([sv (bA r),bv false]))])) (hM:Nat.ble (nidl + 0) big = true) (hN:Nat.blt d N = true){md':Md}[hmd:MdA md (rOs [x0] ++ [.inr i0]) (List.map Sum.inr (List.map Prod.fst ([(i0,some ([sv (bA r),bv false]))]:List (Nat × Option (List AV)))) ++ [.inl d]) md'] (kk:RW Tryz.prog N all Q md' rest ⟨(d,iv v) :: tsl,wrH hsl [(i0,some ([sv (bA r),bv false]))],nidl + 0,z0⟩):RW Tryz.prog N all Q md (⟨some d,.call ⟨.value (.func 255),#[x0],tys⟩,ty,pos,af,none⟩ :: rest) ⟨tsl,hsl,nidl,z0⟩:=by
 exact rx_mcallA (l := [x0]) [i0] 1 [(i0,some ([sv (bA r),bv false]))] hmc (avs := [.optr i0 0]) (by simp only [evL,ha0]) rfl hM hN (md' := md') (hmd := hmd) kk
theorem rvar_c (v:Int) (r:List UInt8) (h:0 ≤ v ∧ v ≤ 5) (hr:r.length ≤ 100000):MC Tryz.prog 255 [.optr 0 0] [(0,some ([sv (bA (b8 (97 + v) :: r)),bv false]))] 1 (fun _:Unit => True) (fun _ => iv v) (fun _ => [(0,some ([sv (bA r),bv false]))]):=by
 have e := b8_nat (n := 97 + v) (by omega)
 have hf := rfrom_c (b8 (97 + v)) r 97 6 (by omega) (by omega) (by omega) (by omega) hr
 refine mc_start Tryz.func255 Tryz.ntmps255 ?_
 repeat' (first|(apply id_rw;(apply rx_rfrom (c := b8 (97 + v)) (r := r) (f := 97) (m := 6);rfl;rfl;rfl;rfl;exact hf;rfl;rfl))|refine stpb ?_|fail)
 (refine rq_ret rfl ?_; refine mc_ret () trivial ?_ ⟨sE ?_,trivial⟩)
 ·exact congrArg iv (by omega)
 ·rfl
theorem rx_rnum {v:Int}{r:List UInt8}{x0:Operand}{i0:Nat}(ha0:ev (lk tsl) x0 = some (.optr i0 0)) (hH0:lkH hsl i0 = some ([sv (bA (b8 (48 + v) :: r)),bv false])) (hmc:MC Tryz.prog 256 [.optr 0 0] [(0,some ([sv (bA (b8 (48 + v) :: r)),bv false]))] 1 (fun _:Unit => True) (fun _ => iv v) (fun _ => [(0,some ([sv (bA r),bv false]))])) (hM:Nat.ble (nidl + 0) big = true) (hN:Nat.blt d N = true){md':Md}[hmd:MdA md (rOs [x0] ++ [.inr i0]) (List.map Sum.inr (List.map Prod.fst ([(i0,some ([sv (bA r),bv false]))]:List (Nat × Option (List AV)))) ++ [.inl d]) md'] (kk:RW Tryz.prog N all Q md' rest ⟨(d,iv v) :: tsl,wrH hsl [(i0,some ([sv (bA r),bv false]))],nidl + 0,z0⟩):RW Tryz.prog N all Q md (⟨some d,.call ⟨.value (.func 256),#[x0],tys⟩,ty,pos,af,none⟩ :: rest) ⟨tsl,hsl,nidl,z0⟩:=by
 exact rx_mcallA (l := [x0]) [i0] 1 [(i0,some ([sv (bA r),bv false]))] hmc (avs := [.optr i0 0]) (by simp only [evL,ha0]) rfl hM hN (md' := md') (hmd := hmd) kk
theorem rnum_c (v:Int) (r:List UInt8) (h:0 ≤ v ∧ v ≤ 9) (hr:r.length ≤ 100000):MC Tryz.prog 256 [.optr 0 0] [(0,some ([sv (bA (b8 (48 + v) :: r)),bv false]))] 1 (fun _:Unit => True) (fun _ => iv v) (fun _ => [(0,some ([sv (bA r),bv false]))]):=by
 have e := b8_nat (n := 48 + v) (by omega)
 have hf := rfrom_c (b8 (48 + v)) r 48 10 (by omega) (by omega) (by omega) (by omega) hr
 refine mc_start Tryz.func256 Tryz.ntmps256 ?_
 repeat' (first|(apply id_rw;(apply rx_rfrom (c := b8 (48 + v)) (r := r) (f := 48) (m := 10);rfl;rfl;rfl;rfl;exact hf;rfl;rfl))|refine stpb ?_|fail)
 (refine rq_ret rfl ?_; refine mc_ret () trivial ?_ ⟨sE ?_,trivial⟩)
 ·exact congrArg iv (by omega)
 ·rfl
theorem pf1 {a c:UInt8}{t r:List UInt8}(h:(a == c) = false):(a :: t).isPrefixOf (c :: r) = false := by simp only [List.isPrefixOf,h,Bool.false_and]
theorem pf2 {a b c d:UInt8}{t r:List UInt8}(h:(b == d) = false):(a :: b :: t).isPrefixOf (c :: d :: r) = false := by simp only [List.isPrefixOf,h,Bool.false_and,Bool.and_false]
theorem pfr {a c:UInt8}{t r:List UInt8}(h:t.isPrefixOf r = false):(a :: t).isPrefixOf (c :: r) = false := by simp only [List.isPrefixOf,h,Bool.and_false]
theorem rx_rstmt {s:AL.Stmt}{e:Int}{rs:List UInt8}{x0 x1:Operand}{i0:Nat}(ha0:ev (lk tsl) x0 = some (.optr i0 0)) (ha1:ev (lk tsl) x1 = some (iv e)) (hH0:lkH hsl i0 = some ([sv (bA (tS s ++ rs)),bv false])) (hmc:MC Tryz.prog 193 [.optr 0 0,iv e] [(0,some ([sv (bA (tS s ++ rs)),bv false]))] 1 (fun _:Unit => True) (fun _ => aStmt s) (fun _ => [(0,some ([sv (bA rs),bv false]))])) (hM:Nat.ble (nidl + 0) big = true) (hN:Nat.blt d N = true){md':Md}[hmd:MdA md (rOs [x0,x1] ++ [.inr i0]) (List.map Sum.inr (List.map Prod.fst ([(i0,some ([sv (bA rs),bv false]))]:List (Nat × Option (List AV)))) ++ [.inl d]) md'] (kk:RW Tryz.prog N all Q md' rest ⟨(d,aStmt s) :: tsl,wrH hsl [(i0,some ([sv (bA rs),bv false]))],nidl + 0,z0⟩):RW Tryz.prog N all Q md (⟨some d,.call ⟨.value (.func 193),#[x0,x1],tys⟩,ty,pos,af,none⟩ :: rest) ⟨tsl,hsl,nidl,z0⟩:=by
 exact rx_mcallA (l := [x0,x1]) [i0] 1 [(i0,some ([sv (bA rs),bv false]))] hmc (avs := [.optr i0 0,iv e]) (by simp only [evL,ha0,ha1]) rfl hM hN (md' := md') (hmd := hmd) kk
theorem rx_rstmts {l:List AL.Stmt}{e:Int}{rs:List UInt8}{x0 x1:Operand}{i0:Nat}(ha0:ev (lk tsl) x0 = some (.optr i0 0)) (ha1:ev (lk tsl) x1 = some (iv e)) (hH0:lkH hsl i0 = some ([sv (bA (tL l ++ rs)),bv false])) (hmc:MC Tryz.prog 128 [.optr 0 0,iv e] [(0,some ([sv (bA (tL l ++ rs)),bv false]))] 1 (fun _:Unit => True) (fun _ => sl cStmt l) (fun _ => [(0,some ([sv (bA rs),bv false]))])) (hM:Nat.ble (nidl + 0) big = true) (hN:Nat.blt d N = true){md':Md}[hmd:MdA md (rOs [x0,x1] ++ [.inr i0]) (List.map Sum.inr (List.map Prod.fst ([(i0,some ([sv (bA rs),bv false]))]:List (Nat × Option (List AV)))) ++ [.inl d]) md'] (kk:RW Tryz.prog N all Q md' rest ⟨(d,sl cStmt l) :: tsl,wrH hsl [(i0,some ([sv (bA rs),bv false]))],nidl + 0,z0⟩):RW Tryz.prog N all Q md (⟨some d,.call ⟨.value (.func 128),#[x0,x1],tys⟩,ty,pos,af,none⟩ :: rest) ⟨tsl,hsl,nidl,z0⟩:=by
 exact rx_mcallA (l := [x0,x1]) [i0] 1 [(i0,some ([sv (bA rs),bv false]))] hmc (avs := [.optr i0 0,iv e]) (by simp only [evL,ha0,ha1]) rfl hM hN (md' := md') (hmd := hmd) kk
theorem rs1_c (x n e:Int) (rs:List UInt8) (hx:0 ≤ x ∧ x ≤ 5) (hn:0 ≤ n ∧ n ≤ 9) (hr:RS rs) (hl:rs.length ≤ 90000):MC Tryz.prog 193 [.optr 0 0,iv e] [(0,some [sv (bA (tS (AL.Stmt.mk 1 x 0 n [] []) ++ rs)),bv false])] 1 (fun _:Unit => True) (fun _ => aStmt (AL.Stmt.mk 1 x 0 n [] [])) (fun _ => [(0,some [sv (bA rs),bv false])]):=by
 have b42 := b8_ne 42 (97 + x) (by omega) (by show 97 + x ≠ 42;omega)
 have c98 := b8_ne 98 (48 + n) (by omega) (by show 48 + n ≠ 98;omega)
 have c38 := b8_ne 38 (48 + n) (by omega) (by show 48 + n ≠ 38;omega)
 have c42 := b8_ne 42 (48 + n) (by omega) (by show 48 + n ≠ 42;omega)
 have c0 : ((bA (b8 (48 + n) :: rs))[Int.toNat 0]!.toNat : Int) = 48 + n := b8_nat (n := 48 + n) (by omega)
 have hne : ((bA (b8 (48 + n) :: rs)).toList == (⟨#[]⟩ : ByteArray).toList) = false := by
  show ((bA (b8 (48 + n) :: rs)).toList == (bA []).toList) = false
  rw [bA_toList,bA_toList]; rfl
 have z1 := bA_size (b8 (48 + n) :: rs)
 rw [List.length_cons] at z1
 rw [tS1]
 simp only [List.cons_append,List.nil_append]
 refine mc_start Tryz.func193 Tryz.ntmps193 ?_
 repeat' (first|(apply id_rw;first|(apply rx_store;rfl;rfl;rfl;rfl;rfl;(case hl => (simp;done));exact (rfl:_=[_,_,_,_,_,_]))|(apply rx_hasF;rfl;rfl;rfl;(exact hasF_c _ _ _ (by first|exact pf2 (by decide)|exact pf1 b42|exact pf1 c98|exact pf1 c38|exact pf1 c42) (by simp only [List.length_cons,List.length_append,List.length_nil] at *; omega) (by decide));rfl;rfl)|(apply rx_rskip;rfl;rfl;rfl;(exact rskip_c _ _ _ rfl (by simp only [List.length_cons,List.length_append,List.length_nil] at *; omega) (by decide));rfl;rfl)|(apply rx_rvar;rfl;rfl;(exact rvar_c _ _ ⟨by omega,by omega⟩ (by simp only [List.length_cons,List.length_append,List.length_nil] at *; omega));rfl;rfl)|(apply rx_sbin;rfl;rfl;(rfl);rfl)|(apply rx_indexS;rfl;rfl;omega;rfl)|(apply rx_rnum;rfl;(rfl);(apply rnum_c <;> (first|assumption|omega));rfl;rfl))|refine stpb ?_|(refine stp2 ?_ ?_ <;> intro hc hq <;> try (exfalso;omega))|(refine stp3 ?_ ?_ <;> intro hg hq <;> try (exfalso;omega))|fail)
 all_goals first
  | (exfalso;omega)
  | (exfalso;rw [hne] at *; contradiction)
  | ((refine rq_ret rfl ?_; refine mc_ret () trivial ?_ ⟨sE ?_, trivial⟩)
     ·rfl
     ·rfl)
  | (refine rq_le (Le.stC (i := 1) (l := []) (m := []) (.inr ⟨rfl, rfl⟩) (.inr ⟨rfl, rfl⟩) rfl) ?_
     (refine rq_ret rfl ?_; refine mc_ret () trivial ?_ ⟨sE ?_,trivial⟩)
     ·rfl
     ·rfl)
theorem rs2_c (x n e:Int) (rs:List UInt8) (hx:0 ≤ x ∧ x ≤ 5) (hn:0 ≤ n ∧ n ≤ 9) (hr:RS rs) (hl:rs.length ≤ 90000):MC Tryz.prog 193 [.optr 0 0,iv e] [(0,some [sv (bA (tS (AL.Stmt.mk 2 x 0 n [] []) ++ rs)),bv false])] 1 (fun _:Unit => True) (fun _ => aStmt (AL.Stmt.mk 2 x 0 n [] [])) (fun _ => [(0,some [sv (bA rs),bv false])]):=by
 have b42 := b8_ne 42 (97 + x) (by omega) (by show 97 + x ≠ 42;omega)
 rw [tS2]
 simp only [List.cons_append,List.nil_append]
 refine mc_start Tryz.func193 Tryz.ntmps193 ?_
 repeat' (first|(apply id_rw;first|(apply rx_store;rfl;rfl;rfl;rfl;rfl;(case hl => (simp;done));exact (rfl:_=[_,_,_,_,_,_]))|(apply rx_hasF;rfl;rfl;rfl;(exact hasF_c _ _ _ (by first|exact pf2 (by decide)|exact pf1 b42) (by simp only [List.length_cons,List.length_append,List.length_nil] at *; omega) (by decide));rfl;rfl)|(apply rx_hasT;rfl;rfl;rfl;(exact hasT_c _ _ _ _ rfl (by simp only [List.length_cons,List.length_append,List.length_nil] at *; omega) (by decide));rfl;rfl)|(apply rx_rskip;rfl;rfl;rfl;(exact rskip_c _ _ _ rfl (by simp only [List.length_cons,List.length_append,List.length_nil] at *; omega) (by decide));rfl;rfl)|(apply rx_rvar;rfl;rfl;(exact rvar_c _ _ ⟨by omega,by omega⟩ (by simp only [List.length_cons,List.length_append,List.length_nil] at *; omega));rfl;rfl)|(apply rx_rnum;rfl;(rfl);(apply rnum_c <;> (first|assumption|omega));rfl;rfl))|refine stpb ?_|fail)
 all_goals first
  | (exfalso;omega)
  | (exfalso;rw [hne] at *; contradiction)
  | ((refine rq_ret rfl ?_; refine mc_ret () trivial ?_ ⟨sE ?_, trivial⟩)
     ·rfl
     ·rfl)
  | (refine rq_le (Le.stC (i := 1) (l := []) (m := []) (.inr ⟨rfl, rfl⟩) (.inr ⟨rfl, rfl⟩) rfl) ?_
     (refine rq_ret rfl ?_; refine mc_ret () trivial ?_ ⟨sE ?_,trivial⟩)
     ·rfl
     ·rfl)
theorem rs3_c (x y e:Int) (rs:List UInt8) (hx:0 ≤ x ∧ x ≤ 5) (hy:0 ≤ y ∧ y ≤ 5) (hr:RS rs) (hl:rs.length ≤ 90000):MC Tryz.prog 193 [.optr 0 0,iv e] [(0,some [sv (bA (tS (AL.Stmt.mk 3 x y 0 [] []) ++ rs)),bv false])] 1 (fun _:Unit => True) (fun _ => aStmt (AL.Stmt.mk 3 x y 0 [] [])) (fun _ => [(0,some [sv (bA rs),bv false])]):=by
 have b42 := b8_ne 42 (97 + x) (by omega) (by show 97 + x ≠ 42;omega)
 have c38 := b8_ne 38 (97 + y) (by omega) (by show 97 + y ≠ 38;omega)
 have c42 := b8_ne 42 (97 + y) (by omega) (by show 97 + y ≠ 42;omega)
 have c0 : ((bA (b8 (97 + y) :: rs))[Int.toNat 0]!.toNat : Int) = 97 + y := b8_nat (n := 97 + y) (by omega)
 have hne : ((bA (b8 (97 + y) :: rs)).toList == (⟨#[]⟩ : ByteArray).toList) = false := by
  show ((bA (b8 (97 + y) :: rs)).toList == (bA []).toList) = false
  rw [bA_toList,bA_toList]; rfl
 have z1 := bA_size (b8 (97 + y) :: rs)
 rw [List.length_cons] at z1
 rw [tS3]
 simp only [List.cons_append,List.nil_append]
 refine mc_start Tryz.func193 Tryz.ntmps193 ?_
 repeat' (first|(apply id_rw;first|(apply rx_store;rfl;rfl;rfl;rfl;rfl;(case hl => (simp;done));exact (rfl:_=[_,_,_,_,_,_]))|(apply rx_hasF;rfl;rfl;rfl;(exact hasF_c _ _ _ (by first|exact pf2 (by decide)|exact pf1 b42|exact pf1 c38|exact pf1 c42|exact pfr (hr.ne 111 _ (by decide) (by decide))) (by simp only [List.length_cons,List.length_append,List.length_nil] at *; omega) (by decide));rfl;rfl)|(apply rx_rskip;rfl;rfl;rfl;(exact rskip_c _ _ _ rfl (by simp only [List.length_cons,List.length_append,List.length_nil] at *; omega) (by decide));rfl;rfl)|(apply rx_rvar;rfl;rfl;(exact rvar_c _ _ ⟨by omega,by omega⟩ (by simp only [List.length_cons,List.length_append,List.length_nil] at *; omega));rfl;rfl)|(apply rx_sbin;rfl;rfl;(rfl);rfl)|(apply rx_indexS;rfl;rfl;omega;rfl)|(apply rx_rvar;rfl;(rfl);(apply rvar_c <;> (first|assumption|omega));rfl;rfl))|refine stpb ?_|(refine stp2 ?_ ?_ <;> intro hc hq <;> try (exfalso;omega))|(refine stp3 ?_ ?_ <;> intro hg hq <;> try (exfalso;omega))|fail)
 all_goals first
  | (exfalso;omega)
  | (exfalso;rw [hne] at *; contradiction)
  | ((refine rq_ret rfl ?_; refine mc_ret () trivial ?_ ⟨sE ?_, trivial⟩)
     ·rfl
     ·rfl)
  | (refine rq_le (Le.stC (i := 1) (l := []) (m := []) (.inr ⟨rfl, rfl⟩) (.inr ⟨rfl, rfl⟩) rfl) ?_
     (refine rq_ret rfl ?_; refine mc_ret () trivial ?_ ⟨sE ?_,trivial⟩)
     ·rfl
     ·rfl)
theorem rs4_c (x y e:Int) (rs:List UInt8) (hx:0 ≤ x ∧ x ≤ 5) (hy:0 ≤ y ∧ y ≤ 5) (hr:RS rs) (hl:rs.length ≤ 90000):MC Tryz.prog 193 [.optr 0 0,iv e] [(0,some [sv (bA (tS (AL.Stmt.mk 4 x y 0 [] []) ++ rs)),bv false])] 1 (fun _:Unit => True) (fun _ => aStmt (AL.Stmt.mk 4 x y 0 [] [])) (fun _ => [(0,some [sv (bA rs),bv false])]):=by
 have b42 := b8_ne 42 (97 + x) (by omega) (by show 97 + x ≠ 42;omega)
 have c109 := b8_ne 109 (97 + y) (by omega) (by show 97 + y ≠ 109;omega)
 rw [tS4]
 simp only [List.cons_append,List.nil_append]
 refine mc_start Tryz.func193 Tryz.ntmps193 ?_
 repeat' (first|(apply id_rw;first|(apply rx_store;rfl;rfl;rfl;rfl;rfl;(case hl => (simp;done));exact (rfl:_=[_,_,_,_,_,_]))|(apply rx_hasF;rfl;rfl;rfl;(exact hasF_c _ _ _ (by first|exact pf1 (by decide)|exact pf2 (by decide)|exact pf1 b42|exact pf2 c109) (by simp only [List.length_cons,List.length_append,List.length_nil] at *; omega) (by decide));rfl;rfl)|(apply rx_hasT;rfl;rfl;rfl;(exact hasT_c _ _ _ _ rfl (by simp only [List.length_cons,List.length_append,List.length_nil] at *; omega) (by decide));rfl;rfl)|(apply rx_rskip;rfl;rfl;rfl;(exact rskip_c _ _ _ rfl (by simp only [List.length_cons,List.length_append,List.length_nil] at *; omega) (by decide));rfl;rfl)|(apply rx_rvar;rfl;rfl;(exact rvar_c _ _ ⟨by omega,by omega⟩ (by simp only [List.length_cons,List.length_append,List.length_nil] at *; omega));rfl;rfl)|(apply rx_rvar;rfl;(rfl);(apply rvar_c <;> (first|assumption|omega));rfl;rfl))|refine stpb ?_|fail)
 all_goals first
  | (exfalso;omega)
  | (exfalso;rw [hne] at *; contradiction)
  | ((refine rq_ret rfl ?_; refine mc_ret () trivial ?_ ⟨sE ?_, trivial⟩)
     ·rfl
     ·rfl)
  | (refine rq_le (Le.stC (i := 1) (l := []) (m := []) (.inr ⟨rfl, rfl⟩) (.inr ⟨rfl, rfl⟩) rfl) ?_
     (refine rq_ret rfl ?_; refine mc_ret () trivial ?_ ⟨sE ?_,trivial⟩)
     ·rfl
     ·rfl)
theorem rs5_c (x y e:Int) (rs:List UInt8) (hx:0 ≤ x ∧ x ≤ 5) (hy:0 ≤ y ∧ y ≤ 5) (hr:RS rs) (hl:rs.length ≤ 90000):MC Tryz.prog 193 [.optr 0 0,iv e] [(0,some [sv (bA (tS (AL.Stmt.mk 5 x y 0 [] []) ++ rs)),bv false])] 1 (fun _:Unit => True) (fun _ => aStmt (AL.Stmt.mk 5 x y 0 [] [])) (fun _ => [(0,some [sv (bA rs),bv false])]):=by
 have b42 := b8_ne 42 (97 + x) (by omega) (by show 97 + x ≠ 42;omega)
 rw [tS5]
 simp only [List.cons_append,List.nil_append]
 refine mc_start Tryz.func193 Tryz.ntmps193 ?_
 repeat' (first|(apply id_rw;first|(apply rx_store;rfl;rfl;rfl;rfl;rfl;(case hl => (simp;done));exact (rfl:_=[_,_,_,_,_,_]))|(apply rx_hasF;rfl;rfl;rfl;(exact hasF_c _ _ _ (by first|exact pf1 (by decide)|exact pf2 (by decide)|exact pf1 b42) (by simp only [List.length_cons,List.length_append,List.length_nil] at *; omega) (by decide));rfl;rfl)|(apply rx_hasT;rfl;rfl;rfl;(exact hasT_c _ _ _ _ rfl (by simp only [List.length_cons,List.length_append,List.length_nil] at *; omega) (by decide));rfl;rfl)|(apply rx_rskip;rfl;rfl;rfl;(exact rskip_c _ _ _ rfl (by simp only [List.length_cons,List.length_append,List.length_nil] at *; omega) (by decide));rfl;rfl)|(apply rx_rvar;rfl;rfl;(exact rvar_c _ _ ⟨by omega,by omega⟩ (by simp only [List.length_cons,List.length_append,List.length_nil] at *; omega));rfl;rfl)|(apply rx_rvar;rfl;(rfl);(apply rvar_c <;> (first|assumption|omega));rfl;rfl))|refine stpb ?_|fail)
 all_goals first
  | (exfalso;omega)
  | (exfalso;rw [hne] at *; contradiction)
  | ((refine rq_ret rfl ?_; refine mc_ret () trivial ?_ ⟨sE ?_, trivial⟩)
     ·rfl
     ·rfl)
  | (refine rq_le (Le.stC (i := 1) (l := []) (m := []) (.inr ⟨rfl, rfl⟩) (.inr ⟨rfl, rfl⟩) rfl) ?_
     (refine rq_ret rfl ?_; refine mc_ret () trivial ?_ ⟨sE ?_,trivial⟩)
     ·rfl
     ·rfl)
theorem rs6_c (x y e:Int) (rs:List UInt8) (hx:0 ≤ x ∧ x ≤ 5) (hy:0 ≤ y ∧ y ≤ 5) (hr:RS rs) (hl:rs.length ≤ 90000):MC Tryz.prog 193 [.optr 0 0,iv e] [(0,some [sv (bA (tS (AL.Stmt.mk 6 x y 0 [] []) ++ rs)),bv false])] 1 (fun _:Unit => True) (fun _ => aStmt (AL.Stmt.mk 6 x y 0 [] [])) (fun _ => [(0,some [sv (bA rs),bv false])]):=by
 have b42 := b8_ne 42 (97 + x) (by omega) (by show 97 + x ≠ 42;omega)
 rw [tS6]
 simp only [List.cons_append,List.nil_append]
 refine mc_start Tryz.func193 Tryz.ntmps193 ?_
 repeat' (first|(apply id_rw;first|(apply rx_store;rfl;rfl;rfl;rfl;rfl;(case hl => (simp;done));exact (rfl:_=[_,_,_,_,_,_]))|(apply rx_hasF;rfl;rfl;rfl;(exact hasF_c _ _ _ (by first|exact pf1 (by decide)|exact pf2 (by decide)|exact pf1 b42) (by simp only [List.length_cons,List.length_append,List.length_nil] at *; omega) (by decide));rfl;rfl)|(apply rx_hasT;rfl;rfl;rfl;(exact hasT_c _ _ _ _ rfl (by simp only [List.length_cons,List.length_append,List.length_nil] at *; omega) (by decide));rfl;rfl)|(apply rx_rskip;rfl;rfl;rfl;(exact rskip_c _ _ _ rfl (by simp only [List.length_cons,List.length_append,List.length_nil] at *; omega) (by decide));rfl;rfl)|(apply rx_rvar;rfl;rfl;(exact rvar_c _ _ ⟨by omega,by omega⟩ (by simp only [List.length_cons,List.length_append,List.length_nil] at *; omega));rfl;rfl)|(apply rx_rvar;rfl;(rfl);(apply rvar_c <;> (first|assumption|omega));rfl;rfl))|refine stpb ?_|fail)
 all_goals first
  | (exfalso;omega)
  | (exfalso;rw [hne] at *; contradiction)
  | ((refine rq_ret rfl ?_; refine mc_ret () trivial ?_ ⟨sE ?_, trivial⟩)
     ·rfl
     ·rfl)
  | (refine rq_le (Le.stC (i := 1) (l := []) (m := []) (.inr ⟨rfl, rfl⟩) (.inr ⟨rfl, rfl⟩) rfl) ?_
     (refine rq_ret rfl ?_; refine mc_ret () trivial ?_ ⟨sE ?_,trivial⟩)
     ·rfl
     ·rfl)
theorem rs7_c (x y e:Int) (rs:List UInt8) (hx:0 ≤ x ∧ x ≤ 5) (hy:0 ≤ y ∧ y ≤ 5) (hr:RS rs) (hl:rs.length ≤ 90000):MC Tryz.prog 193 [.optr 0 0,iv e] [(0,some [sv (bA (tS (AL.Stmt.mk 7 x y 0 [] []) ++ rs)),bv false])] 1 (fun _:Unit => True) (fun _ => aStmt (AL.Stmt.mk 7 x y 0 [] [])) (fun _ => [(0,some [sv (bA rs),bv false])]):=by
 rw [tS7]
 simp only [List.cons_append,List.nil_append]
 refine mc_start Tryz.func193 Tryz.ntmps193 ?_
 repeat' (first|(apply id_rw;first|(apply rx_store;rfl;rfl;rfl;rfl;rfl;(case hl => (simp;done));exact (rfl:_=[_,_,_,_,_,_]))|(apply rx_hasF;rfl;rfl;rfl;(exact hasF_c _ _ _ (by (exact pf1 (by decide))) (by simp only [List.length_cons,List.length_append,List.length_nil] at *; omega) (by decide));rfl;rfl)|(apply rx_hasT;rfl;rfl;rfl;(exact hasT_c _ _ _ _ rfl (by simp only [List.length_cons,List.length_append,List.length_nil] at *; omega) (by decide));rfl;rfl)|(apply rx_rskip;rfl;rfl;rfl;(exact rskip_c _ _ _ rfl (by simp only [List.length_cons,List.length_append,List.length_nil] at *; omega) (by decide));rfl;rfl)|(apply rx_rvar;rfl;rfl;(exact rvar_c _ _ ⟨by omega,by omega⟩ (by simp only [List.length_cons,List.length_append,List.length_nil] at *; omega));rfl;rfl)|(apply rx_rvar;rfl;(rfl);(apply rvar_c <;> (first|assumption|omega));rfl;rfl))|refine stpb ?_|fail)
 all_goals first
  | (exfalso;omega)
  | (exfalso;rw [hne] at *; contradiction)
  | ((refine rq_ret rfl ?_; refine mc_ret () trivial ?_ ⟨sE ?_, trivial⟩)
     ·rfl
     ·rfl)
  | (refine rq_le (Le.stC (i := 1) (l := []) (m := []) (.inr ⟨rfl, rfl⟩) (.inr ⟨rfl, rfl⟩) rfl) ?_
     (refine rq_ret rfl ?_; refine mc_ret () trivial ?_ ⟨sE ?_,trivial⟩)
     ·rfl
     ·rfl)
theorem rs8_c (x e:Int) (rs:List UInt8) (hx:0 ≤ x ∧ x ≤ 5) (hr:RS rs) (hl:rs.length ≤ 90000):MC Tryz.prog 193 [.optr 0 0,iv e] [(0,some [sv (bA (tS (AL.Stmt.mk 8 x 0 0 [] []) ++ rs)),bv false])] 1 (fun _:Unit => True) (fun _ => aStmt (AL.Stmt.mk 8 x 0 0 [] [])) (fun _ => [(0,some [sv (bA rs),bv false])]):=by
 rw [tS8]
 simp only [List.cons_append,List.nil_append]
 refine mc_start Tryz.func193 Tryz.ntmps193 ?_
 repeat' (first|(apply id_rw;first|(apply rx_store;rfl;rfl;rfl;rfl;rfl;(case hl => (simp;done));exact (rfl:_=[_,_,_,_,_,_]))|(apply rx_hasF;rfl;rfl;rfl;(exact hasF_c _ _ _ (by (exact pf1 (by decide))) (by simp only [List.length_cons,List.length_append,List.length_nil] at *; omega) (by decide));rfl;rfl)|(apply rx_hasT;rfl;rfl;rfl;(exact hasT_c _ _ _ _ rfl (by simp only [List.length_cons,List.length_append,List.length_nil] at *; omega) (by decide));rfl;rfl)|(apply rx_rvar;rfl;(rfl);(apply rvar_c <;> (first|assumption|omega));rfl;rfl))|refine stpb ?_|fail)
 all_goals first
  | (exfalso;omega)
  | (exfalso;rw [hne] at *; contradiction)
  | ((refine rq_ret rfl ?_; refine mc_ret () trivial ?_ ⟨sE ?_, trivial⟩)
     ·rfl
     ·rfl)
  | (refine rq_le (Le.stC (i := 1) (l := []) (m := []) (.inr ⟨rfl, rfl⟩) (.inr ⟨rfl, rfl⟩) rfl) ?_
     (refine rq_ret rfl ?_; refine mc_ret () trivial ?_ ⟨sE ?_,trivial⟩)
     ·rfl
     ·rfl)
theorem rs9_c (th el:List AL.Stmt) (e:Int) (rs:List UInt8) (he:0 ≤ e ∧ e ≤ 100) (hl:(tL th).length + (tL el).length + rs.length ≤ 90000) (h1:MC Tryz.prog 128 [.optr 0 0,iv (e + 1)] [(0,some [sv (bA (tL th ++ (125 :: 123 :: (tL el ++ 125 :: rs)))),bv false])] 1 (fun _:Unit => True) (fun _ => sl cStmt th) (fun _ => [(0,some [sv (bA (125 :: 123 :: (tL el ++ 125 :: rs))),bv false])])) (h2:MC Tryz.prog 128 [.optr 0 0,iv (e + 1)] [(0,some [sv (bA (tL el ++ (125 :: rs))),bv false])] 1 (fun _:Unit => True) (fun _ => sl cStmt el) (fun _ => [(0,some [sv (bA (125 :: rs)),bv false])])):MC Tryz.prog 193 [.optr 0 0,iv (e)] [(0,some [sv (bA (tS (AL.Stmt.mk 9 0 0 0 th el) ++ (rs))),bv false])] 1 (fun _:Unit => True) (fun _ => aStmt (AL.Stmt.mk 9 0 0 0 th el)) (fun _ => [(0,some [sv (bA (rs)),bv false])]):=by
 rw [tS9]
 simp only [List.cons_append,List.nil_append,List.append_assoc]
 refine mc_start Tryz.func193 Tryz.ntmps193 ?_
 repeat' (first|(apply id_rw;first|(apply rx_store;rfl;rfl;rfl;rfl;rfl;(case hl => (simp;done));exact (rfl:_=[_,_,_,_,_,_]))|(apply rx_hasT;rfl;rfl;rfl;(exact hasT_c _ _ _ _ rfl (by simp only [List.length_cons,List.length_append,List.length_nil] at *; omega) (by decide));rfl;rfl)|(apply rx_rskip;rfl;rfl;rfl;(exact rskip_c _ _ _ rfl (by simp only [List.length_cons,List.length_append,List.length_nil] at *; omega) (by decide));rfl;rfl)|(apply rx_rstmts (l := th);rfl;rfl;rfl;exact h1;rfl;rfl)|(apply rx_rstmts (l := el);rfl;rfl;rfl;exact h2;rfl;rfl))|refine stpb ?_|fail)
 all_goals first
  | (exfalso;omega)
  | ((refine rq_ret rfl ?_; refine mc_ret () trivial ?_ ⟨sE ?_, trivial⟩)
     ·rfl
     ·rfl)
  | (refine rq_le (Le.stC (i := 1) (l := th) (m := []) (.inl rfl) (.inr ⟨rfl, rfl⟩) rfl) ?_
     (refine rq_ret rfl ?_; refine mc_ret () trivial ?_ ⟨sE ?_,trivial⟩)
     ·rfl
     ·rfl)
theorem rs10_c (th:List AL.Stmt) (e:Int) (rs:List UInt8) (he:0 ≤ e ∧ e ≤ 100) (hl:(tL th).length + rs.length ≤ 90000) (h1:MC Tryz.prog 128 [.optr 0 0,iv (e + 1)] [(0,some [sv (bA (tL th ++ (125 :: rs))),bv false])] 1 (fun _:Unit => True) (fun _ => sl cStmt th) (fun _ => [(0,some [sv (bA (125 :: rs)),bv false])])):MC Tryz.prog 193 [.optr 0 0,iv (e)] [(0,some [sv (bA (tS (AL.Stmt.mk 10 0 0 0 th []) ++ (rs))),bv false])] 1 (fun _:Unit => True) (fun _ => aStmt (AL.Stmt.mk 10 0 0 0 th [])) (fun _ => [(0,some [sv (bA (rs)),bv false])]):=by
 rw [tS10]
 simp only [List.cons_append,List.nil_append,List.append_assoc]
 refine mc_start Tryz.func193 Tryz.ntmps193 ?_
 repeat' (first|(apply id_rw;first|(apply rx_store;rfl;rfl;rfl;rfl;rfl;(case hl => (simp;done));exact (rfl:_=[_,_,_,_,_,_]))|(apply rx_hasF;rfl;rfl;rfl;(exact hasF_c _ _ _ (by (exact pf1 (by decide))) (by simp only [List.length_cons,List.length_append,List.length_nil] at *; omega) (by decide));rfl;rfl)|(apply rx_hasT;rfl;rfl;rfl;(exact hasT_c _ _ _ _ rfl (by simp only [List.length_cons,List.length_append,List.length_nil] at *; omega) (by decide));rfl;rfl)|(apply rx_rskip;rfl;rfl;rfl;(exact rskip_c _ _ _ rfl (by simp only [List.length_cons,List.length_append,List.length_nil] at *; omega) (by decide));rfl;rfl)|(apply rx_rstmts (l := th);rfl;rfl;rfl;exact h1;rfl;rfl))|refine stpb ?_|fail)
 all_goals first
  | (exfalso;omega)
  | ((refine rq_ret rfl ?_; refine mc_ret () trivial ?_ ⟨sE ?_, trivial⟩)
     ·rfl
     ·rfl)
  | (refine rq_le (Le.stC (i := 1) (l := th) (m := []) (.inl rfl) (.inr ⟨rfl, rfl⟩) rfl) ?_
     (refine rq_ret rfl ?_; refine mc_ret () trivial ?_ ⟨sE ?_,trivial⟩)
     ·rfl
     ·rfl)
theorem rl0_c (e:Int) (rs:List UInt8) (he:0 ≤ e ∧ e ≤ 4) (hr:RL rs) (hl:rs.length ≤ 90000):MC Tryz.prog 128 [.optr 0 0,iv (e)] [(0,some [sv (bA (tL [] ++ (rs))),bv false])] 1 (fun _:Unit => True) (fun _ => sl cStmt []) (fun _ => [(0,some [sv (bA (rs)),bv false])]):=by
 rw [tL_nil,List.nil_append]
 rcases hr with rfl | ⟨q,rfl⟩
 ·have hee : ((bA []).toList == (⟨#[]⟩ : ByteArray).toList) = true := by
   show ((bA []).toList == (bA []).toList) = true
   rw [bA_toList]; rfl
  refine mc_start Tryz.func128 Tryz.ntmps128 ?_
  repeat' (first|(apply id_rw;(apply rx_sbin;rfl;rfl;(rfl);rfl))|refine stpb ?_|(refine stp2 ?_ ?_ <;> intro hc hq <;> try (exfalso;omega))|fail)
  all_goals first
   | (exfalso;omega)
   | (exfalso;rw [hee] at *; contradiction)
   | (refine rq_le (Le.nilImm (d := 4) rfl) ?_
      (refine rq_ret rfl ?_; refine mc_ret () trivial ?_ ⟨sE ?_,trivial⟩)
      ·rfl
      ·rfl)
 ·have c0 : ((bA (125 :: q))[Int.toNat 0]!.toNat : Int) = 125 := rfl
  have hne : ((bA (125 :: q)).toList == (⟨#[]⟩ : ByteArray).toList) = false := by
   show ((bA (125 :: q)).toList == (bA []).toList) = false
   rw [bA_toList,bA_toList]; rfl
  have z1 := bA_size (125 :: q)
  rw [List.length_cons] at z1
  refine mc_start Tryz.func128 Tryz.ntmps128 ?_
  repeat' (first|(apply id_rw;first|(apply rx_sbin;rfl;rfl;(rfl);rfl)|(apply rx_indexS;rfl;rfl;omega;rfl))|refine stpb ?_|(refine stp2 ?_ ?_ <;> intro hc hq <;> try (exfalso;omega))|fail)
  all_goals first
   | (exfalso;omega)
   | (exfalso;rw [hne] at *; contradiction)
   | (refine rq_le (Le.nilImm (d := 4) rfl) ?_
      (refine rq_ret rfl ?_; refine mc_ret () trivial ?_ ⟨sE ?_,trivial⟩)
      ·rfl
      ·rfl)
theorem jT_len:∀ (l:List AL.Stmt) (k:Nat),(jT (l.drop k)).length ≤ (jT l).length
 | [],k => by simp
 | s :: l,0 => by simp
 | s :: l, k + 1 => by
  have := jT_len l k
  rw [List.drop_succ_cons,jT_cons,List.length_cons,List.length_append]; omega
theorem rl_c (s0:AL.Stmt) (l:List AL.Stmt) (e:Int) (rs:List UInt8) (he:0 ≤ e ∧ e ≤ 4) (hr:RL rs) (hl:(tL (s0 :: l)).length + rs.length ≤ 90000) (hc:cntL (s0 :: l) ≤ 10000) (hn:∃ c r,tS s0 = c :: r ∧ c ≠ 125)
  (hst : ∀ k,k < (s0 :: l).length → ∀ q,(tS (s0 :: l)[k]!).length + q.length ≤ 90000 → RS q → MC Tryz.prog 193 [.optr 0 0,iv (e)] [(0,some [sv (bA (tS (s0 :: l)[k]! ++ (q))),bv false])] 1 (fun _ : Unit => True) (fun _ => aStmt (s0 :: l)[k]!) (fun _ => [(0,some [sv (bA (q)),bv false])])) : MC Tryz.prog 128 [.optr 0 0,iv (e)] [(0,some [sv (bA (tL (s0 :: l) ++ (rs))),bv false])] 1 (fun _ : Unit => True) (fun _ => sl cStmt (s0 :: l)) (fun _ => [(0,some [sv (bA (rs)),bv false])]) := by
 obtain ⟨c,r,hc1,hc2⟩ := hn
 have hlen := cntL_len (s0 :: l)
 rw [tL_jT,List.length_append] at hl
 have e0 : (s0 :: l)[0]! = s0 := rfl
 have hs0 := hst 0 (by simp) (jT l ++ rs) (by rw [List.length_append,e0]; omega) (hr.jT l)
 rw [e0] at hs0
 have c0 : ((bA (tS s0 ++ (jT l ++ rs)))[Int.toNat 0]!.toNat : Int) = c.toNat := by rw [hc1]; rfl
 have c1 : ((bA (tS s0 ++ (jT l ++ rs)))[Int.toNat 0]!.toNat : Int) ≠ 125 := by rw [c0]; intro h;exact hc2 (UInt8.toNat_inj.1 (by show c.toNat = 125;omega))
 have hne : ((bA (tS s0 ++ (jT l ++ rs))).toList == (⟨#[]⟩ : ByteArray).toList) = false := by
  show ((bA (tS s0 ++ (jT l ++ rs))).toList == (bA []).toList) = false
  rw [bA_toList,bA_toList,hc1]; rfl
 have z1 := bA_size (tS s0 ++ (jT l ++ rs))
 rw [hc1] at z1
 simp only [List.length_cons,List.cons_append] at z1
 rw [← List.cons_append,← hc1] at z1
 rw [tL_jT,List.append_assoc]
 refine mc_start Tryz.func128 Tryz.ntmps128 ?_
 repeat' (first|(apply id_rw;first|(apply rx_rstmt (s := s0);rfl;rfl;rfl;exact hs0;rfl;rfl)|(apply rx_sbin;rfl;rfl;(rfl);rfl)|(apply rx_indexS;rfl;rfl;omega;rfl))|refine stpb ?_|(refine stp2 ?_ ?_ <;> intro hc hq <;> try (exfalso;omega))|fail)
 all_goals first
  | (exfalso;omega)
  | (exfalso;rw [hne] at *; contradiction)
  | skip
 have q1 : [iv s0.op,iv s0.x,iv s0.y,iv s0.n,sl cStmt s0.th,sl cStmt s0.el] = flat cStmt [s0] := ((flat_one _ _).trans (cStmt_def s0)).symm
 rw [q1]
 refine aw_loopA (σ := Nat × List AL.Stmt) [0,1] [] (fun k => [(5,.own 1 0 (k.1 + 1) 6)]) (fun k => [(1,some (flat cStmt k.2)),(0,some [sv (bA (jT ((s0 :: l).drop (k.1 + 1)) ++ rs)),bv false])]) (fun k => k.1 < (s0 :: l).length ∧ k.2 = (s0 :: l).take (k.1 + 1)) (fun k => (s0 :: l).length - k.1) (0,[s0]) ⟨by simp,rfl⟩ ?_
 rintro ⟨k,xs⟩ ⟨hk,hxs⟩
 dsimp only at hk hxs ⊢
 have hxl : xs.length = k + 1 := by rw [hxs,List.length_take]; omega
 have hjl := jT_len (s0 :: l) (k + 1)
 rw [jT_cons,List.length_cons,List.length_append] at hjl
 by_cases hkn : k + 1 < (s0 :: l).length
 ·have hdr : (s0 :: l).drop (k + 1) = (s0 :: l)[k + 1]! :: (s0 :: l).drop (k + 1 + 1) := drop_consB _ _ hkn
  rw [hdr,jT_cons,List.length_cons,List.length_append] at hjl
  rw [hdr,jT_cons]
  simp only [List.cons_append,List.append_assoc]
  have hs1 := hst (k + 1) hkn (jT ((s0 :: l).drop (k + 1 + 1)) ++ rs) (by rw [List.length_append]; omega) (hr.jT _)
  have htk := take_succB (s0 :: l) (k + 1) hkn
  generalize (s0 :: l)[k + 1]! = s1 at *
  repeat' (first|(apply id_rw;first|(apply rx_hasT;rfl;rfl;rfl;(exact hasT_c _ _ _ _ rfl (by simp only [List.length_cons,List.length_append,List.length_nil] at *; omega) (by decide));rfl;rfl)|(apply rx_rstmt (s := s1);rfl;rfl;rfl;exact hs1;rfl;rfl)|(apply rx_buildSliceI (t := _);rfl;rfl;rfl;(exact (rfl:_=some [_,_,_,_,_,_]));rfl;rfl))|refine stpb ?_|fail)
  (refine ex3 (k + 1,_) (Le.renA [(1,3)]) ?_ ?_)
  ·exact ⟨hkn,by dsimp only;rw [hxs,htk]⟩
  ·dsimp only;omega
 ·have hdr : (s0 :: l).drop (k + 1) = [] := List.drop_of_length_le (by omega)
  have hsm := hr.semi
  rw [hdr,jT_nil,List.nil_append]
  repeat' (first|(apply id_rw;(apply rx_hasF;rfl;rfl;rfl;exact hasF_c _ _ _ hsm (by omega) (by decide);rfl;rfl))|refine stpb ?_|fail)
  have hx2 : xs = s0 :: l := by rw [hxs]; exact List.take_of_length_le (by omega)
  have hln : (s0 :: l).length = k + 1 := by omega
  refine rq_le (Le.frzD (d := 4) (i := 1) rfl rfl) ?_
  (refine rq_ret rfl ?_; refine mc_ret () trivial ?_ ⟨sE ?_,trivial⟩)
  ·show AV.imm (k + 1) (flat cStmt xs) = sl cStmt (s0 :: l)
   rw [hx2,← hln]
  ·rfl
def RsC (s : AL.Stmt) (e : Int) (rs : List UInt8) : Prop := MC Tryz.prog 193 [.optr 0 0,iv e] [(0,some [sv (bA (tS s ++ rs)),bv false])] 1 (fun _ : Unit => True) (fun _ => aStmt s) (fun _ => [(0,some [sv (bA rs),bv false])])
def RlC (l : List AL.Stmt) (e : Int) (rs : List UInt8) : Prop := MC Tryz.prog 128 [.optr 0 0,iv e] [(0,some [sv (bA (tL l ++ rs)),bv false])] 1 (fun _ : Unit => True) (fun _ => sl cStmt l) (fun _ => [(0,some [sv (bA rs),bv false])])
theorem rsS_c {ts:List Int}(ht:typesOk ts = true){o x y n:Int}(e:Int) (rs:List UInt8) (h:simpleF ts (.mk o x y n [] []) = true) (hr:RS rs) (hl:rs.length ≤ 90000):RsC (.mk o x y n [] []) e rs:=by
 have hb := simple_bd ht h
 have hc := simple_can h
 simp only [AL.Stmt.op,AL.Stmt.x,AL.Stmt.y,AL.Stmt.n] at hb hc
 obtain ⟨b1,b2,b3,b4,b5,b6,b7⟩ := hb
 obtain ⟨c1,c2⟩ := hc
 have h18 : o = 1 ∨ o = 2 ∨ o = 3 ∨ o = 4 ∨ o = 5 ∨ o = 6 ∨ o = 7 ∨ o = 8 := by omega
 rcases h18 with rfl|rfl|rfl|rfl|rfl|rfl|rfl|rfl
 ·obtain rfl := c1 (by decide);exact rs1_c x n e rs ⟨b3,b4⟩ (b7 (by decide)) hr hl
 ·obtain rfl := c1 (by decide);exact rs2_c x n e rs ⟨b3,b4⟩ (b7 (by decide)) hr hl
 ·obtain rfl := c2 (by decide) (by decide);exact rs3_c x y e rs ⟨b3,b4⟩ ⟨b5,b6⟩ hr hl
 ·obtain rfl := c2 (by decide) (by decide);exact rs4_c x y e rs ⟨b3,b4⟩ ⟨b5,b6⟩ hr hl
 ·obtain rfl := c2 (by decide) (by decide);exact rs5_c x y e rs ⟨b3,b4⟩ ⟨b5,b6⟩ hr hl
 ·obtain rfl := c2 (by decide) (by decide);exact rs6_c x y e rs ⟨b3,b4⟩ ⟨b5,b6⟩ hr hl
 ·obtain rfl := c2 (by decide) (by decide);exact rs7_c x y e rs ⟨b3,b4⟩ ⟨b5,b6⟩ hr hl
 ·obtain rfl := c2 (by decide) (by decide);obtain rfl := c1 (by decide);exact rs8_c x e rs ⟨b3,b4⟩ hr hl
mutual
theorem rstmt_c {ts:List Int}(ht:typesOk ts = true):∀ (s:AL.Stmt) (d:Nat) (e:Int) (rs:List UInt8),d ≤ 4 → e + d = 4 → okS ts d s = true → RS rs → cntS s ≤ 10000 → (tS s).length + rs.length ≤ 90000 → RsC s e rs
 | .mk op x y n th el, d, e, rs, hd, he, h, hr, hc, hl => by
  simp only [okS] at h
  split at h
  ·rename_i h9
   simp only [Bool.and_eq_true,List.isEmpty_iff] at h
   obtain ⟨⟨rfl,rfl⟩,h⟩ := h
   exact rsS_c ht e rs h hr (by omega)
  ·rename_i h9
   cases d with
   | zero => cases h
   | succ d =>
    simp only [Bool.and_eq_true,decide_eq_true_eq] at h
    obtain ⟨⟨⟨⟨rfl,rfl,rfl⟩,h10⟩,h1⟩,h2⟩ := h
    simp only [cntS] at hc
    by_cases e9 : op = 9
    ·subst e9
     rw [tS9] at hl
     simp only [List.length_append,List.length_cons,List.length_nil] at hl
     exact rs9_c th el e rs (by omega) (by omega) (rstmts_c ht th d (e + 1) (125 :: 123 :: (tL el ++ 125 :: rs)) (by omega) (by omega) h1 (.inr ⟨_, rfl⟩) (by omega) (by simp only [List.length_append, List.length_cons]; omega))
      (rstmts_c ht el d (e + 1) (125 :: rs) (by omega) (by omega) h2 (.inr ⟨_,rfl⟩) (by omega) (by simp only [List.length_cons]; omega))
    ·obtain rfl : op = 10 := by omega
     have hel : el = [] := by
      cases el with
      | nil => rfl
      | cons a b => simp at h10
     subst hel
     rw [tS10] at hl
     simp only [List.length_append,List.length_cons,List.length_nil] at hl
     exact rs10_c th e rs (by omega) (by omega) (rstmts_c ht th d (e + 1) (125 :: rs) (by omega) (by omega) h1 (.inr ⟨_,rfl⟩) (by omega) (by simp only [List.length_cons]; omega))
theorem rstmts_c {ts:List Int}(ht:typesOk ts = true):∀ (l:List AL.Stmt) (d:Nat) (e:Int) (rs:List UInt8),d ≤ 4 → e + d = 4 → okL ts d l = true → RL rs → cntL l ≤ 10000 → (tL l).length + rs.length ≤ 90000 → RlC l e rs
 | [],d,e,rs,hd,he,h,hr,hc,hl => rl0_c e rs (by omega) hr (by omega)
 | s :: l, d, e, rs, hd, he, h, hr, hc, hl => by
  have h0 := h
  have hc0 := hc
  simp only [okL,Bool.and_eq_true] at h0
  simp only [cntL] at hc0
  refine rl_c s l e rs (by omega) hr hl hc (tS_ne ht h0.1) fun k hk q hq hrq => ?_
  cases k with
  | zero => exact rstmt_c ht s d e q hd he h0.1 hrq (by omega) hq
  | succ k => exact rall_c ht l d e hd he h0.2 (by omega) k (by simpa using hk) q hq hrq
theorem rall_c {ts:List Int}(ht:typesOk ts = true):∀ (l:List AL.Stmt) (d:Nat) (e:Int),d ≤ 4 → e + d = 4 → okL ts d l = true → cntL l ≤ 10000 → ∀ k,k < l.length → ∀ q,(tS l[k]!).length + q.length ≤ 90000 → RS q → RsC l[k]! e q
 | [],d,e,hd,he,h,hc,k,hk,q,hq,hr => absurd hk (by simp)
 | s :: l, d, e, hd, he, h, hc, k, hk, q, hq, hr => by
  simp only [okL,Bool.and_eq_true] at h
  simp only [cntL] at hc
  cases k with
  | zero => exact rstmt_c ht s d e q hd he h.1 hr (by omega) hq
  | succ k => exact rall_c ht l d e hd he h.2 (by omega) k (by simpa using hk) q hq hr
end
instance : CaT Tryz.prog 182:=⟨by kernel_rfl⟩
instance : CaT Tryz.prog 120:=⟨by kernel_rfl⟩
theorem indexC_c (s:List UInt8) (c:UInt8):PC Tryz.prog 182 [sv (bA s),sv (bA [c])] (fun r => r = iv (Lib.indexByte s c)):=by
 refine pc_of_calls fun w bad ι vals hv => ?_
 simp only [RdV,Rd] at hv
 obtain ⟨y,l,rfl,rfl,y2,l2,rfl,rfl,rfl⟩ := hv
 refine (Tryz.stringslite_Index_one (bA s) c w).mono ?_
 rintro e w' ⟨rfl,rfl⟩
 exact ⟨_,iv _,rfl,rfl,rfl,fun _ _ _ => by simp only [Rd]; rfl,Below.refl _ _⟩
theorem indexB_c (s:List UInt8) (c:UInt8):PC Tryz.prog 127 [sv (bA s),.v (.int .u8 (c.toNat:Int))] (fun r => r = iv (Lib.indexByte s c)):=by
 refine pc_of_calls fun w bad ι vals hv => ?_
 simp only [RdV,Rd] at hv
 obtain ⟨y,l,rfl,rfl,y2,l2,rfl,rfl,rfl⟩ := hv
 refine (Tryz.strings_IndexByte (bA s) (c.toNat : Int) w).mono ?_
 rintro e w' ⟨rfl,rfl⟩
 have e1 : (c.toNat : Int).toNat.toUInt8 = c := by simp
 rw [e1]
 exact ⟨_,iv _,rfl,rfl,rfl,fun _ _ _ => by simp only [Rd]; rfl,Below.refl _ _⟩
theorem cutH0_c (a r:List UInt8) (c:UInt8) (h:c ∉ a) (hl:a.length + r.length ≤ 100000):PC Tryz.prog 120 [sv (bA (a ++ c :: r)),sv (bA [c])] (fun x => x = .tup [sv (bA a),sv (bA r),bv true]):=by
 have hi := indexC_c (a ++ c :: r) c
 rw [indexByte_at c r a h] at hi
 have z1 := bA_size (a ++ c :: r)
 have z2 : (bA [c]).size = 1 := rfl
 rw [List.length_append,List.length_cons] at z1
 have e1 : (bA (a ++ c :: r)).extract 0 a.length = bA a := by rw [bA_take,List.take_left]
 have e2 : (bA (a ++ c :: r)).extract (a.length + 1) (bA (a ++ c :: r)).size = bA r := by
  rw [bA_size,bA_drop,show a ++ c :: r = (a ++ [c]) ++ r by simp,show a.length + 1 = (a ++ [c]).length by simp,List.drop_left]
 refine pc_start Tryz.func120 Tryz.ntmps120 ?_
 repeat' (first|(apply id_rw;first|(apply rx_callE (k := 182);rfl;exact hi;(rfl);rfl)|(apply rx_sliceS;rfl;(rfl);(rfl);omega;rfl))|refine stpb ?_|refine stpd ?_|fail)
 refine rq_ret (l := [sv ((bA (a ++ c :: r)).extract 0 a.length),sv ((bA (a ++ c :: r)).extract (a.length + 1) (bA (a ++ c :: r)).size),bv true]) rfl ⟨?_,rfl⟩
 rw [e1,e2]; rfl
theorem cutH_c (a r:List UInt8) (c:UInt8) (h:c ∉ a) (hl:a.length + r.length ≤ 100000):PC Tryz.prog 81 [sv (bA (a ++ c :: r)),sv (bA [c])] (fun x => x = .tup [sv (bA a),sv (bA r),bv true]):=by
 have hi := cutH0_c a r c h hl
 refine pc_start Tryz.func81 Tryz.ntmps81 ?_
 repeat' (first|(apply id_rw;(apply rx_callE (k := 120);rfl;exact hi;(rfl);rfl))|refine stpb ?_|fail)
 exact rq_ret rfl ⟨rfl,rfl⟩
theorem tyB_ix {t:Int}(h:1 ≤ t ∧ t ≤ 4):Lib.indexByte [105,98,114,109] (tyB t) = t - 1:=by
 have h14 : t = 1 ∨ t = 2 ∨ t = 3 ∨ t = 4 := by omega
 rcases h14 with rfl|rfl|rfl|rfl <;> rfl
theorem tyB_no (l:List Int):(58:UInt8) ∉ l.map tyB:=by
 simp only [List.mem_map,not_exists,not_and]
 exact fun t _ e => (tyB_ne (t := t)).1 e
theorem bA_get (l:List UInt8) (k:Nat) (h:k < l.length):(bA l)[k]! = l[k]!:=by
 rw [getElem!_pos (bA l) k (by rw [bA_size]; exact h),getElem!_pos l k h]; rfl
theorem parse_c (p:Prg) (hv:validF p = true):PC Tryz.prog 83 [sv (bA (tP p))] (fun r => r = .tup [aPrg p,bv true]):=by
 have hpt := progText_c p hv
 have hv0 := hv
 unfold validF at hv
 simp only [Bool.and_eq_true,decide_eq_true_eq] at hv
 obtain ⟨⟨h1,h2⟩,h3⟩ := hv
 have htl := typesOk_len h1
 have hval := validI_c p (by omega) (by omega)
 rw [hv0] at hval
 have hsz := textL_size p.body
 have htz := tP_size hv0
 have hlz : (tL p.body).length = (textL p.body).size := rfl
 have hcut := cutH_c (p.types.map tyB) (tL p.body ++ []) 58 (tyB_no _) (by rw [List.length_map,List.append_nil]; omega)
 have eT : p.types.map tyB ++ 58 :: (tL p.body ++ []) = tP p := by rw [List.append_nil]; rfl
 rw [eT] at hcut
 have z1 := bA_size (tP p)
 have z2 : (bA (p.types.map tyB)).size = p.types.length := by rw [bA_size,List.length_map]
 have hst := rstmts_c h1 p.body 4 0 [] (by omega) (by omega) h2 (.inl rfl) (by omega) (by rw [List.length_nil]; omega)
 unfold RlC at hst
 have hsf : ((bA (tP p)).toList == (bA (tP p)).toList) = true := beq_self_eq_true _
 have hse : ((bA []).toList == (⟨#[]⟩ : ByteArray).toList) = true := beq_self_eq_true (bA []).toList
 refine pc_start Tryz.func83 Tryz.ntmps83 ?_
 repeat' (first|(apply id_rw;(apply rx_callE (k := 81);rfl;exact hcut;(rfl);rfl))|refine stpb ?_|(refine stp2 ?_ ?_ <;> intro hc hq <;> try (exfalso;omega))|fail)
 all_goals try (exfalso;omega)
 refine AW.le ?_ (Le.nilCell (i := 1) 1 [] rfl (by decide) (by decide))
 refine aw_loopA (σ := Nat) [0,2,4,5,7,21] [0] (fun k => [(22,iv (k : Int))]) (fun k => [(1,some [.own 2 0 k 1,.v (.slice none 0 0)]),(2,some (flat cI (p.types.take k)))]) (fun k => k ≤ p.types.length) (fun k => p.types.length - k) (0) (Nat.zero_le _) ?_
 intro k hk
 have hxl : (p.types.take k).length = k := by rw [List.length_take]; omega
 by_cases hkn : k < p.types.length
 ·have ht := typesOk_at h1 k hkn
  have hix := indexB_c [105,98,114,109] (tyB p.types[k]!)
  rw [tyB_ix ht] at hix
  have hge : ((bA (p.types.map tyB))[(k : Int).toNat]!.toNat : Int) = (tyB p.types[k]!).toNat := by
   rw [Int.toNat_natCast,bA_get _ _ (by rw [List.length_map]; exact hkn),getB _ _ (by rw [List.length_map]; exact hkn),List.getElem_map,getB _ _ hkn]
  rw [← hge] at hix
  have htk := take_succB p.types k hkn
  have ek : 1 + (p.types[k]! - 1) = p.types[k]! := by omega
  repeat' (first|(apply id_rw;first|(apply rx_callE (k := 127);rfl;exact hix;(rfl);rfl)|(apply rx_indexS;rfl;rfl;omega;rfl))|refine stpb ?_|(refine stp2 ?_ ?_ <;> intro hc hq <;> try (exfalso;omega))|refine stpd ?_|fail)
  rw [ek,← htk]
  (refine ex3 (k + 1) (Le.renA [(0,0),(1,1),(2,4)]) ?_ ?_)
  ·exact hkn
  ·omega
 ·repeat' (first | (apply id_rw; (with_reducible apply rw_stop (d := 36))) | refine stpb ?_ | (refine stp2 ?_ ?_ <;> intro hc hq <;> try (exfalso; omega))|fail)
  have hke : k = p.types.length := by omega
  subst hke
  refine rw_go ?_
  rw [List.take_length]
  refine rw_le ?_ (Le.frzC (j := 1) (i := 2) [] rfl rfl (by decide))
  repeat' (first|(apply id_rw;first|(apply rx_rstmts (l := p.body) (e := 0) (rs := []);rfl;rfl;rfl;exact hst;rfl;rfl)|(apply rx_callE (k := 17);rfl;exact hval;exact Pur.pf;rfl)|(apply rx_callE (k := 48);rfl;exact hpt;exact Pur.pf;rfl)|(apply rx_sbin;rfl;rfl;(rfl);rfl))|refine stpb ?_|(refine stp2 ?_ ?_ <;> intro hc hq <;> try (exfalso;omega))|(refine stp3 ?_ ?_ <;> intro hg hq <;> try (exfalso;omega))|fail)
  all_goals first
   | (exfalso;rw [hsf] at *; contradiction)
   | (exfalso;rw [hse] at *; contradiction)
   | exact rq_ret (l := [aPrg p,bv true]) rfl ⟨rfl,by exact Pur.pf⟩
end Go.Proofs.YtjnhlgpbojggnaaGreatDoor
