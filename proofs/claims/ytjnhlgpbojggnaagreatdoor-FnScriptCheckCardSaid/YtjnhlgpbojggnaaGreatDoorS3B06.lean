/-
 A part of the proofs over this program: rules and contracts of its functions (the contracts).
-/
import Derived.Test.YtjnhlgpbojggnaaGreatDoorS3B05
import Derived.Deep.LoopGhost
set_option linter.unusedVariables false
set_option linter.unusedSimpArgs false
set_option maxHeartbeats 8000000
set_option maxRecDepth 4000
attribute [local irreducible] Go.AL.RW Go.AL.AW Go.AL.Stop
namespace Go.Proofs.YtjnhlgpbojggnaaGreatDoor
open Go.AL Go.RowKit
variable {N : Nat} {Q : Exit → AS → Prop} {all : Array Oper} {rest : List Oper} {tsl : List (Nat × AV)} {hsl : List (Nat × Option (List AV))} {nidl : Nat} {z0 : Lo} {md : Md} {d : Nat} {ty : TypeId} {pos : String} {af : Array Edge} {tys : Array TypeId}
theorem pf1 {a c:UInt8}{t r:List UInt8}(h:(a == c) = false):(a :: t).isPrefixOf (c :: r) = false := by simp only [List.isPrefixOf,h,Bool.false_and]
theorem pf2 {a b c d:UInt8}{t r:List UInt8}(h:(b == d) = false):(a :: b :: t).isPrefixOf (c :: d :: r) = false := by simp only [List.isPrefixOf,h,Bool.false_and,Bool.and_false]
theorem pfr {a c:UInt8}{t r:List UInt8}(h:t.isPrefixOf r = false):(a :: t).isPrefixOf (c :: r) = false := by simp only [List.isPrefixOf,h,Bool.and_false]
theorem rx_rstmt {s:AL.Stmt}{e:Int}{rs:List UInt8}{x0 x1:Operand}{i0:Nat}(ha0:ev (lk tsl) x0 = some (.optr i0 0)) (ha1:ev (lk tsl) x1 = some (iv e)) (hH0:lkH hsl i0 = some ([sv (bA (tS s ++ rs)),bv false])) (hmc:MC Tryz.prog 193 [.optr 0 0,iv e] [(0,some ([sv (bA (tS s ++ rs)),bv false]))] 1 (fun _:Unit => True) (fun _ => aStmt s) (fun _ => [(0,some ([sv (bA rs),bv false]))])) (hM:Nat.ble (nidl + 0) big = true) (hN:Nat.blt d N = true){md':Md}[hmd:MdA md (rOs [x0,x1] ++ [.inr i0]) (List.map Sum.inr (List.map Prod.fst ([(i0,some ([sv (bA rs),bv false]))]:List (Nat × Option (List AV)))) ++ [.inl d]) md'] (kk:RW Tryz.prog N all Q md' rest ⟨(d,aStmt s) :: tsl,wrH hsl [(i0,some ([sv (bA rs),bv false]))],nidl + 0,z0⟩):RW Tryz.prog N all Q md (⟨some d,.call ⟨.value (.func 193),#[x0,x1],tys⟩,ty,pos,af,none⟩ :: rest) ⟨tsl,hsl,nidl,z0⟩:=by
 exact rx_mcallA (l := [x0,x1]) [i0] 1 [(i0,some ([sv (bA rs),bv false]))] hmc (avs := [.optr i0 0,iv e]) (by simp only [evL,ha0,ha1]) rfl hM hN (md' := md') (hmd := hmd) kk
theorem rx_rstmts {l:List AL.Stmt}{e:Int}{rs:List UInt8}{x0 x1:Operand}{i0:Nat}(ha0:ev (lk tsl) x0 = some (.optr i0 0)) (ha1:ev (lk tsl) x1 = some (iv e)) (hH0:lkH hsl i0 = some ([sv (bA (tL l ++ rs)),bv false])) (hmc:MC Tryz.prog 128 [.optr 0 0,iv e] [(0,some ([sv (bA (tL l ++ rs)),bv false]))] 1 (fun _:Unit => True) (fun _ => sl cStmt l) (fun _ => [(0,some ([sv (bA rs),bv false]))])) (hM:Nat.ble (nidl + 0) big = true) (hN:Nat.blt d N = true){md':Md}[hmd:MdA md (rOs [x0,x1] ++ [.inr i0]) (List.map Sum.inr (List.map Prod.fst ([(i0,some ([sv (bA rs),bv false]))]:List (Nat × Option (List AV)))) ++ [.inl d]) md'] (kk:RW Tryz.prog N all Q md' rest ⟨(d,sl cStmt l) :: tsl,wrH hsl [(i0,some ([sv (bA rs),bv false]))],nidl + 0,z0⟩):RW Tryz.prog N all Q md (⟨some d,.call ⟨.value (.func 128),#[x0,x1],tys⟩,ty,pos,af,none⟩ :: rest) ⟨tsl,hsl,nidl,z0⟩:=by
 exact rx_mcallA (l := [x0,x1]) [i0] 1 [(i0,some ([sv (bA rs),bv false]))] hmc (avs := [.optr i0 0,iv e]) (by simp only [evL,ha0,ha1]) rfl hM hN (md' := md') (hmd := hmd) kk
theorem rs1_c (x n e:Int) (rs:List UInt8) (hx:0 ≤ x ∧ x ≤ 5) (hn:0 ≤ n ∧ n ≤ 9) (hr:RS rs) (hl:rs.length ≤ 90000):MC Tryz.prog 193 [.optr 0 0,iv e] [(0,some [sv (bA (tS (AL.Stmt.mk 1 x 0 n [] []) ++ rs)),bv false])] 1 (fun _:Unit => True) (fun _ => aStmt (AL.Stmt.mk 1 x 0 n [] [])) (fun _ => [(0,some [sv (bA rs),bv false])]):=by
 have b42 := b8_ne 42 (97 + x) (by omega) (by show 97 + x ≠ 42;omega)
 have c98 := b8_ne 98 (48 + n) (by omega) (by show 48 + n ≠ 98;omega)
 have c38 := b8_ne 38 (48 + n) (by omega) (by show 48 + n ≠ 38;omega)
 have c42 := b8_ne 42 (48 + n) (by omega) (by show 48 + n ≠ 42;omega)
 have c0 : ((bA (b8 (48 + n) :: rs))[Int.toNat 0]!.toNat : Int) = 48 + n := b8_nat (n := 48 + n) (by omega)
 have hne : ((bA (b8 (48 + n) :: rs)).toList == (⟨#[]⟩ : ByteArray).toList) = false := by
  show ((bA (b8 (48 + n) :: rs)).toList == (bA []).toList) = false
  rw [bA_toList,bA_toList]; rfl
 have z1 := bA_size (b8 (48 + n) :: rs)
 rw [List.length_cons] at z1
 rw [tS1]
 simp only [List.cons_append,List.nil_append]
 refine mc_start Tryz.func193 Tryz.ntmps193 ?_
 repeat' (first|(apply id_rw;first|(apply rx_store;rfl;rfl;rfl;rfl;rfl;(case hl => (simp;done));exact (rfl:_=[_,_,_,_,_,_]))|(apply rx_hasF;rfl;rfl;rfl;(exact hasF_c _ _ _ (by first|exact pf2 (by decide)|exact pf1 b42|exact pf1 c98|exact pf1 c38|exact pf1 c42) (by simp only [List.length_cons,List.length_append,List.length_nil] at *; omega) (by decide));rfl;rfl)|(apply rx_rskip;rfl;rfl;rfl;(exact rskip_c _ _ _ rfl (by simp only [List.length_cons,List.length_append,List.length_nil] at *; omega) (by decide));rfl;rfl)|(apply rx_rvar;rfl;rfl;(exact rvar_c _ _ ⟨by omega,by omega⟩ (by simp only [List.length_cons,List.length_append,List.length_nil] at *; omega));rfl;rfl)|(apply rx_sbin;rfl;rfl;(rfl);rfl)|(apply rx_indexS;rfl;rfl;omega;rfl)|(apply rx_rnum;rfl;(rfl);(apply rnum_c <;> (first|assumption|omega));rfl;rfl))|refine stpb ?_|(refine stp2 ?_ ?_ <;> intro hc hq <;> try (exfalso;omega))|(refine stp3 ?_ ?_ <;> intro hg hq <;> try (exfalso;omega))|fail)
 all_goals first
  | (exfalso;omega)
  | (exfalso;rw [hne] at *; contradiction)
  | ((refine rq_ret rfl ?_; refine mc_ret () trivial ?_ ⟨sE ?_, trivial⟩)
     ·rfl
     ·rfl)
  | (refine rq_le (Le.stC (i := 1) (l := []) (m := []) (.inr ⟨rfl, rfl⟩) (.inr ⟨rfl, rfl⟩) rfl) ?_
     (refine rq_ret rfl ?_; refine mc_ret () trivial ?_ ⟨sE ?_,trivial⟩)
     ·rfl
     ·rfl)
theorem rs2_c (x n e:Int) (rs:List UInt8) (hx:0 ≤ x ∧ x ≤ 5) (hn:0 ≤ n ∧ n ≤ 9) (hr:RS rs) (hl:rs.length ≤ 90000):MC Tryz.prog 193 [.optr 0 0,iv e] [(0,some [sv (bA (tS (AL.Stmt.mk 2 x 0 n [] []) ++ rs)),bv false])] 1 (fun _:Unit => True) (fun _ => aStmt (AL.Stmt.mk 2 x 0 n [] [])) (fun _ => [(0,some [sv (bA rs),bv false])]):=by
 have b42 := b8_ne 42 (97 + x) (by omega) (by show 97 + x ≠ 42;omega)
 rw [tS2]
 simp only [List.cons_append,List.nil_append]
 refine mc_start Tryz.func193 Tryz.ntmps193 ?_
 repeat' (first|(apply id_rw;first|(apply rx_store;rfl;rfl;rfl;rfl;rfl;(case hl => (simp;done));exact (rfl:_=[_,_,_,_,_,_]))|(apply rx_hasF;rfl;rfl;rfl;(exact hasF_c _ _ _ (by first|exact pf2 (by decide)|exact pf1 b42) (by simp only [List.length_cons,List.length_append,List.length_nil] at *; omega) (by decide));rfl;rfl)|(apply rx_hasT;rfl;rfl;rfl;(exact hasT_c _ _ _ _ rfl (by simp only [List.length_cons,List.length_append,List.length_nil] at *; omega) (by decide));rfl;rfl)|(apply rx_rskip;rfl;rfl;rfl;(exact rskip_c _ _ _ rfl (by simp only [List.length_cons,List.length_append,List.length_nil] at *; omega) (by decide));rfl;rfl)|(apply rx_rvar;rfl;rfl;(exact rvar_c _ _ ⟨by omega,by omega⟩ (by simp only [List.length_cons,List.length_append,List.length_nil] at *; omega));rfl;rfl)|(apply rx_rnum;rfl;(rfl);(apply rnum_c <;> (first|assumption|omega));rfl;rfl))|refine stpb ?_|fail)
 all_goals first
  | (exfalso;omega)
  | (exfalso;rw [hne] at *; contradiction)
  | ((refine rq_ret rfl ?_; refine mc_ret () trivial ?_ ⟨sE ?_, trivial⟩)
     ·rfl
     ·rfl)
  | (refine rq_le (Le.stC (i := 1) (l := []) (m := []) (.inr ⟨rfl, rfl⟩) (.inr ⟨rfl, rfl⟩) rfl) ?_
     (refine rq_ret rfl ?_; refine mc_ret () trivial ?_ ⟨sE ?_,trivial⟩)
     ·rfl
     ·rfl)
theorem rs3_c (x y e:Int) (rs:List UInt8) (hx:0 ≤ x ∧ x ≤ 5) (hy:0 ≤ y ∧ y ≤ 5) (hr:RS rs) (hl:rs.length ≤ 90000):MC Tryz.prog 193 [.optr 0 0,iv e] [(0,some [sv (bA (tS (AL.Stmt.mk 3 x y 0 [] []) ++ rs)),bv false])] 1 (fun _:Unit => True) (fun _ => aStmt (AL.Stmt.mk 3 x y 0 [] [])) (fun _ => [(0,some [sv (bA rs),bv false])]):=by
 have b42 := b8_ne 42 (97 + x) (by omega) (by show 97 + x ≠ 42;omega)
 have c38 := b8_ne 38 (97 + y) (by omega) (by show 97 + y ≠ 38;omega)
 have c42 := b8_ne 42 (97 + y) (by omega) (by show 97 + y ≠ 42;omega)
 have c0 : ((bA (b8 (97 + y) :: rs))[Int.toNat 0]!.toNat : Int) = 97 + y := b8_nat (n := 97 + y) (by omega)
 have hne : ((bA (b8 (97 + y) :: rs)).toList == (⟨#[]⟩ : ByteArray).toList) = false := by
  show ((bA (b8 (97 + y) :: rs)).toList == (bA []).toList) = false
  rw [bA_toList,bA_toList]; rfl
 have z1 := bA_size (b8 (97 + y) :: rs)
 rw [List.length_cons] at z1
 rw [tS3]
 simp only [List.cons_append,List.nil_append]
 refine mc_start Tryz.func193 Tryz.ntmps193 ?_
 repeat' (first|(apply id_rw;first|(apply rx_store;rfl;rfl;rfl;rfl;rfl;(case hl => (simp;done));exact (rfl:_=[_,_,_,_,_,_]))|(apply rx_hasF;rfl;rfl;rfl;(exact hasF_c _ _ _ (by first|exact pf2 (by decide)|exact pf1 b42|exact pf1 c38|exact pf1 c42|exact pfr (hr.ne 111 _ (by decide) (by decide))) (by simp only [List.length_cons,List.length_append,List.length_nil] at *; omega) (by decide));rfl;rfl)|(apply rx_rskip;rfl;rfl;rfl;(exact rskip_c _ _ _ rfl (by simp only [List.length_cons,List.length_append,List.length_nil] at *; omega) (by decide));rfl;rfl)|(apply rx_rvar;rfl;rfl;(exact rvar_c _ _ ⟨by omega,by omega⟩ (by simp only [List.length_cons,List.length_append,List.length_nil] at *; omega));rfl;rfl)|(apply rx_sbin;rfl;rfl;(rfl);rfl)|(apply rx_indexS;rfl;rfl;omega;rfl)|(apply rx_rvar;rfl;(rfl);(apply rvar_c <;> (first|assumption|omega));rfl;rfl))|refine stpb ?_|(refine stp2 ?_ ?_ <;> intro hc hq <;> try (exfalso;omega))|(refine stp3 ?_ ?_ <;> intro hg hq <;> try (exfalso;omega))|fail)
 all_goals first
  | (exfalso;omega)
  | (exfalso;rw [hne] at *; contradiction)
  | ((refine rq_ret rfl ?_; refine mc_ret () trivial ?_ ⟨sE ?_, trivial⟩)
     ·rfl
     ·rfl)
  | (refine rq_le (Le.stC (i := 1) (l := []) (m := []) (.inr ⟨rfl, rfl⟩) (.inr ⟨rfl, rfl⟩) rfl) ?_
     (refine rq_ret rfl ?_; refine mc_ret () trivial ?_ ⟨sE ?_,trivial⟩)
     ·rfl
     ·rfl)
theorem rs4_c (x y e:Int) (rs:List UInt8) (hx:0 ≤ x ∧ x ≤ 5) (hy:0 ≤ y ∧ y ≤ 5) (hr:RS rs) (hl:rs.length ≤ 90000):MC Tryz.prog 193 [.optr 0 0,iv e] [(0,some [sv (bA (tS (AL.Stmt.mk 4 x y 0 [] []) ++ rs)),bv false])] 1 (fun _:Unit => True) (fun _ => aStmt (AL.Stmt.mk 4 x y 0 [] [])) (fun _ => [(0,some [sv (bA rs),bv false])]):=by
 have b42 := b8_ne 42 (97 + x) (by omega) (by show 97 + x ≠ 42;omega)
 have c109 := b8_ne 109 (97 + y) (by omega) (by show 97 + y ≠ 109;omega)
 rw [tS4]
 simp only [List.cons_append,List.nil_append]
 refine mc_start Tryz.func193 Tryz.ntmps193 ?_
 repeat' (first|(apply id_rw;first|(apply rx_store;rfl;rfl;rfl;rfl;rfl;(case hl => (simp;done));exact (rfl:_=[_,_,_,_,_,_]))|(apply rx_hasF;rfl;rfl;rfl;(exact hasF_c _ _ _ (by first|exact pf1 (by decide)|exact pf2 (by decide)|exact pf1 b42|exact pf2 c109) (by simp only [List.length_cons,List.length_append,List.length_nil] at *; omega) (by decide));rfl;rfl)|(apply rx_hasT;rfl;rfl;rfl;(exact hasT_c _ _ _ _ rfl (by simp only [List.length_cons,List.length_append,List.length_nil] at *; omega) (by decide));rfl;rfl)|(apply rx_rskip;rfl;rfl;rfl;(exact rskip_c _ _ _ rfl (by simp only [List.length_cons,List.length_append,List.length_nil] at *; omega) (by decide));rfl;rfl)|(apply rx_rvar;rfl;rfl;(exact rvar_c _ _ ⟨by omega,by omega⟩ (by simp only [List.length_cons,List.length_append,List.length_nil] at *; omega));rfl;rfl)|(apply rx_rvar;rfl;(rfl);(apply rvar_c <;> (first|assumption|omega));rfl;rfl))|refine stpb ?_|fail)
 all_goals first
  | (exfalso;omega)
  | (exfalso;rw [hne] at *; contradiction)
  | ((refine rq_ret rfl ?_; refine mc_ret () trivial ?_ ⟨sE ?_, trivial⟩)
     ·rfl
     ·rfl)
  | (refine rq_le (Le.stC (i := 1) (l := []) (m := []) (.inr ⟨rfl, rfl⟩) (.inr ⟨rfl, rfl⟩) rfl) ?_
     (refine rq_ret rfl ?_; refine mc_ret () trivial ?_ ⟨sE ?_,trivial⟩)
     ·rfl
     ·rfl)
theorem rs5_c (x y e:Int) (rs:List UInt8) (hx:0 ≤ x ∧ x ≤ 5) (hy:0 ≤ y ∧ y ≤ 5) (hr:RS rs) (hl:rs.length ≤ 90000):MC Tryz.prog 193 [.optr 0 0,iv e] [(0,some [sv (bA (tS (AL.Stmt.mk 5 x y 0 [] []) ++ rs)),bv false])] 1 (fun _:Unit => True) (fun _ => aStmt (AL.Stmt.mk 5 x y 0 [] [])) (fun _ => [(0,some [sv (bA rs),bv false])]):=by
 have b42 := b8_ne 42 (97 + x) (by omega) (by show 97 + x ≠ 42;omega)
 rw [tS5]
 simp only [List.cons_append,List.nil_append]
 refine mc_start Tryz.func193 Tryz.ntmps193 ?_
 repeat' (first|(apply id_rw;first|(apply rx_store;rfl;rfl;rfl;rfl;rfl;(case hl => (simp;done));exact (rfl:_=[_,_,_,_,_,_]))|(apply rx_hasF;rfl;rfl;rfl;(exact hasF_c _ _ _ (by first|exact pf1 (by decide)|exact pf2 (by decide)|exact pf1 b42) (by simp only [List.length_cons,List.length_append,List.length_nil] at *; omega) (by decide));rfl;rfl)|(apply rx_hasT;rfl;rfl;rfl;(exact hasT_c _ _ _ _ rfl (by simp only [List.length_cons,List.length_append,List.length_nil] at *; omega) (by decide));rfl;rfl)|(apply rx_rskip;rfl;rfl;rfl;(exact rskip_c _ _ _ rfl (by simp only [List.length_cons,List.length_append,List.length_nil] at *; omega) (by decide));rfl;rfl)|(apply rx_rvar;rfl;rfl;(exact rvar_c _ _ ⟨by omega,by omega⟩ (by simp only [List.length_cons,List.length_append,List.length_nil] at *; omega));rfl;rfl)|(apply rx_rvar;rfl;(rfl);(apply rvar_c <;> (first|assumption|omega));rfl;rfl))|refine stpb ?_|fail)
 all_goals first
  | (exfalso;omega)
  | (exfalso;rw [hne] at *; contradiction)
  | ((refine rq_ret rfl ?_; refine mc_ret () trivial ?_ ⟨sE ?_, trivial⟩)
     ·rfl
     ·rfl)
  | (refine rq_le (Le.stC (i := 1) (l := []) (m := []) (.inr ⟨rfl, rfl⟩) (.inr ⟨rfl, rfl⟩) rfl) ?_
     (refine rq_ret rfl ?_; refine mc_ret () trivial ?_ ⟨sE ?_,trivial⟩)
     ·rfl
     ·rfl)
theorem rs6_c (x y e:Int) (rs:List UInt8) (hx:0 ≤ x ∧ x ≤ 5) (hy:0 ≤ y ∧ y ≤ 5) (hr:RS rs) (hl:rs.length ≤ 90000):MC Tryz.prog 193 [.optr 0 0,iv e] [(0,some [sv (bA (tS (AL.Stmt.mk 6 x y 0 [] []) ++ rs)),bv false])] 1 (fun _:Unit => True) (fun _ => aStmt (AL.Stmt.mk 6 x y 0 [] [])) (fun _ => [(0,some [sv (bA rs),bv false])]):=by
 have b42 := b8_ne 42 (97 + x) (by omega) (by show 97 + x ≠ 42;omega)
 rw [tS6]
 simp only [List.cons_append,List.nil_append]
 refine mc_start Tryz.func193 Tryz.ntmps193 ?_
 repeat' (first|(apply id_rw;first|(apply rx_store;rfl;rfl;rfl;rfl;rfl;(case hl => (simp;done));exact (rfl:_=[_,_,_,_,_,_]))|(apply rx_hasF;rfl;rfl;rfl;(exact hasF_c _ _ _ (by first|exact pf1 (by decide)|exact pf2 (by decide)|exact pf1 b42) (by simp only [List.length_cons,List.length_append,List.length_nil] at *; omega) (by decide));rfl;rfl)|(apply rx_hasT;rfl;rfl;rfl;(exact hasT_c _ _ _ _ rfl (by simp only [List.length_cons,List.length_append,List.length_nil] at *; omega) (by decide));rfl;rfl)|(apply rx_rskip;rfl;rfl;rfl;(exact rskip_c _ _ _ rfl (by simp only [List.length_cons,List.length_append,List.length_nil] at *; omega) (by decide));rfl;rfl)|(apply rx_rvar;rfl;rfl;(exact rvar_c _ _ ⟨by omega,by omega⟩ (by simp only [List.length_cons,List.length_append,List.length_nil] at *; omega));rfl;rfl)|(apply rx_rvar;rfl;(rfl);(apply rvar_c <;> (first|assumption|omega));rfl;rfl))|refine stpb ?_|fail)
 all_goals first
  | (exfalso;omega)
  | (exfalso;rw [hne] at *; contradiction)
  | ((refine rq_ret rfl ?_; refine mc_ret () trivial ?_ ⟨sE ?_, trivial⟩)
     ·rfl
     ·rfl)
  | (refine rq_le (Le.stC (i := 1) (l := []) (m := []) (.inr ⟨rfl, rfl⟩) (.inr ⟨rfl, rfl⟩) rfl) ?_
     (refine rq_ret rfl ?_; refine mc_ret () trivial ?_ ⟨sE ?_,trivial⟩)
     ·rfl
     ·rfl)
theorem rs7_c (x y e:Int) (rs:List UInt8) (hx:0 ≤ x ∧ x ≤ 5) (hy:0 ≤ y ∧ y ≤ 5) (hr:RS rs) (hl:rs.length ≤ 90000):MC Tryz.prog 193 [.optr 0 0,iv e] [(0,some [sv (bA (tS (AL.Stmt.mk 7 x y 0 [] []) ++ rs)),bv false])] 1 (fun _:Unit => True) (fun _ => aStmt (AL.Stmt.mk 7 x y 0 [] [])) (fun _ => [(0,some [sv (bA rs),bv false])]):=by
 rw [tS7]
 simp only [List.cons_append,List.nil_append]
 refine mc_start Tryz.func193 Tryz.ntmps193 ?_
 repeat' (first|(apply id_rw;first|(apply rx_store;rfl;rfl;rfl;rfl;rfl;(case hl => (simp;done));exact (rfl:_=[_,_,_,_,_,_]))|(apply rx_hasF;rfl;rfl;rfl;(exact hasF_c _ _ _ (by (exact pf1 (by decide))) (by simp only [List.length_cons,List.length_append,List.length_nil] at *; omega) (by decide));rfl;rfl)|(apply rx_hasT;rfl;rfl;rfl;(exact hasT_c _ _ _ _ rfl (by simp only [List.length_cons,List.length_append,List.length_nil] at *; omega) (by decide));rfl;rfl)|(apply rx_rskip;rfl;rfl;rfl;(exact rskip_c _ _ _ rfl (by simp only [List.length_cons,List.length_append,List.length_nil] at *; omega) (by decide));rfl;rfl)|(apply rx_rvar;rfl;rfl;(exact rvar_c _ _ ⟨by omega,by omega⟩ (by simp only [List.length_cons,List.length_append,List.length_nil] at *; omega));rfl;rfl)|(apply rx_rvar;rfl;(rfl);(apply rvar_c <;> (first|assumption|omega));rfl;rfl))|refine stpb ?_|fail)
 all_goals first
  | (exfalso;omega)
  | (exfalso;rw [hne] at *; contradiction)
  | ((refine rq_ret rfl ?_; refine mc_ret () trivial ?_ ⟨sE ?_, trivial⟩)
     ·rfl
     ·rfl)
  | (refine rq_le (Le.stC (i := 1) (l := []) (m := []) (.inr ⟨rfl, rfl⟩) (.inr ⟨rfl, rfl⟩) rfl) ?_
     (refine rq_ret rfl ?_; refine mc_ret () trivial ?_ ⟨sE ?_,trivial⟩)
     ·rfl
     ·rfl)
theorem rs8_c (x e:Int) (rs:List UInt8) (hx:0 ≤ x ∧ x ≤ 5) (hr:RS rs) (hl:rs.length ≤ 90000):MC Tryz.prog 193 [.optr 0 0,iv e] [(0,some [sv (bA (tS (AL.Stmt.mk 8 x 0 0 [] []) ++ rs)),bv false])] 1 (fun _:Unit => True) (fun _ => aStmt (AL.Stmt.mk 8 x 0 0 [] [])) (fun _ => [(0,some [sv (bA rs),bv false])]):=by
 rw [tS8]
 simp only [List.cons_append,List.nil_append]
 refine mc_start Tryz.func193 Tryz.ntmps193 ?_
 repeat' (first|(apply id_rw;first|(apply rx_store;rfl;rfl;rfl;rfl;rfl;(case hl => (simp;done));exact (rfl:_=[_,_,_,_,_,_]))|(apply rx_hasF;rfl;rfl;rfl;(exact hasF_c _ _ _ (by (exact pf1 (by decide))) (by simp only [List.length_cons,List.length_append,List.length_nil] at *; omega) (by decide));rfl;rfl)|(apply rx_hasT;rfl;rfl;rfl;(exact hasT_c _ _ _ _ rfl (by simp only [List.length_cons,List.length_append,List.length_nil] at *; omega) (by decide));rfl;rfl)|(apply rx_rvar;rfl;(rfl);(apply rvar_c <;> (first|assumption|omega));rfl;rfl))|refine stpb ?_|fail)
 all_goals first
  | (exfalso;omega)
  | (exfalso;rw [hne] at *; contradiction)
  | ((refine rq_ret rfl ?_; refine mc_ret () trivial ?_ ⟨sE ?_, trivial⟩)
     ·rfl
     ·rfl)
  | (refine rq_le (Le.stC (i := 1) (l := []) (m := []) (.inr ⟨rfl, rfl⟩) (.inr ⟨rfl, rfl⟩) rfl) ?_
     (refine rq_ret rfl ?_; refine mc_ret () trivial ?_ ⟨sE ?_,trivial⟩)
     ·rfl
     ·rfl)
theorem rs9_c (th el:List AL.Stmt) (e:Int) (rs:List UInt8) (he:0 ≤ e ∧ e ≤ 100) (hl:(tL th).length + (tL el).length + rs.length ≤ 90000) (h1:MC Tryz.prog 128 [.optr 0 0,iv (e + 1)] [(0,some [sv (bA (tL th ++ (125 :: 123 :: (tL el ++ 125 :: rs)))),bv false])] 1 (fun _:Unit => True) (fun _ => sl cStmt th) (fun _ => [(0,some [sv (bA (125 :: 123 :: (tL el ++ 125 :: rs))),bv false])])) (h2:MC Tryz.prog 128 [.optr 0 0,iv (e + 1)] [(0,some [sv (bA (tL el ++ (125 :: rs))),bv false])] 1 (fun _:Unit => True) (fun _ => sl cStmt el) (fun _ => [(0,some [sv (bA (125 :: rs)),bv false])])):MC Tryz.prog 193 [.optr 0 0,iv (e)] [(0,some [sv (bA (tS (AL.Stmt.mk 9 0 0 0 th el) ++ (rs))),bv false])] 1 (fun _:Unit => True) (fun _ => aStmt (AL.Stmt.mk 9 0 0 0 th el)) (fun _ => [(0,some [sv (bA (rs)),bv false])]):=by
 rw [tS9]
 simp only [List.cons_append,List.nil_append,List.append_assoc]
 refine mc_start Tryz.func193 Tryz.ntmps193 ?_
 repeat' (first|(apply id_rw;first|(apply rx_store;rfl;rfl;rfl;rfl;rfl;(case hl => (simp;done));exact (rfl:_=[_,_,_,_,_,_]))|(apply rx_hasT;rfl;rfl;rfl;(exact hasT_c _ _ _ _ rfl (by simp only [List.length_cons,List.length_append,List.length_nil] at *; omega) (by decide));rfl;rfl)|(apply rx_rskip;rfl;rfl;rfl;(exact rskip_c _ _ _ rfl (by simp only [List.length_cons,List.length_append,List.length_nil] at *; omega) (by decide));rfl;rfl)|(apply rx_rstmts (l := th);rfl;rfl;rfl;exact h1;rfl;rfl)|(apply rx_rstmts (l := el);rfl;rfl;rfl;exact h2;rfl;rfl))|refine stpb ?_|fail)
 all_goals first
  | (exfalso;omega)
  | ((refine rq_ret rfl ?_; refine mc_ret () trivial ?_ ⟨sE ?_, trivial⟩)
     ·rfl
     ·rfl)
  | (refine rq_le (Le.stC (i := 1) (l := th) (m := []) (.inl rfl) (.inr ⟨rfl, rfl⟩) rfl) ?_
     (refine rq_ret rfl ?_; refine mc_ret () trivial ?_ ⟨sE ?_,trivial⟩)
     ·rfl
     ·rfl)
theorem rs10_c (th:List AL.Stmt) (e:Int) (rs:List UInt8) (he:0 ≤ e ∧ e ≤ 100) (hl:(tL th).length + rs.length ≤ 90000) (h1:MC Tryz.prog 128 [.optr 0 0,iv (e + 1)] [(0,some [sv (bA (tL th ++ (125 :: rs))),bv false])] 1 (fun _:Unit => True) (fun _ => sl cStmt th) (fun _ => [(0,some [sv (bA (125 :: rs)),bv false])])):MC Tryz.prog 193 [.optr 0 0,iv (e)] [(0,some [sv (bA (tS (AL.Stmt.mk 10 0 0 0 th []) ++ (rs))),bv false])] 1 (fun _:Unit => True) (fun _ => aStmt (AL.Stmt.mk 10 0 0 0 th [])) (fun _ => [(0,some [sv (bA (rs)),bv false])]):=by
 rw [tS10]
 simp only [List.cons_append,List.nil_append,List.append_assoc]
 refine mc_start Tryz.func193 Tryz.ntmps193 ?_
 repeat' (first|(apply id_rw;first|(apply rx_store;rfl;rfl;rfl;rfl;rfl;(case hl => (simp;done));exact (rfl:_=[_,_,_,_,_,_]))|(apply rx_hasF;rfl;rfl;rfl;(exact hasF_c _ _ _ (by (exact pf1 (by decide))) (by simp only [List.length_cons,List.length_append,List.length_nil] at *; omega) (by decide));rfl;rfl)|(apply rx_hasT;rfl;rfl;rfl;(exact hasT_c _ _ _ _ rfl (by simp only [List.length_cons,List.length_append,List.length_nil] at *; omega) (by decide));rfl;rfl)|(apply rx_rskip;rfl;rfl;rfl;(exact rskip_c _ _ _ rfl (by simp only [List.length_cons,List.length_append,List.length_nil] at *; omega) (by decide));rfl;rfl)|(apply rx_rstmts (l := th);rfl;rfl;rfl;exact h1;rfl;rfl))|refine stpb ?_|fail)
 all_goals first
  | (exfalso;omega)
  | ((refine rq_ret rfl ?_; refine mc_ret () trivial ?_ ⟨sE ?_, trivial⟩)
     ·rfl
     ·rfl)
  | (refine rq_le (Le.stC (i := 1) (l := th) (m := []) (.inl rfl) (.inr ⟨rfl, rfl⟩) rfl) ?_
     (refine rq_ret rfl ?_; refine mc_ret () trivial ?_ ⟨sE ?_,trivial⟩)
     ·rfl
     ·rfl)
theorem rl0_c (e:Int) (rs:List UInt8) (he:0 ≤ e ∧ e ≤ 4) (hr:RL rs) (hl:rs.length ≤ 90000):MC Tryz.prog 128 [.optr 0 0,iv (e)] [(0,some [sv (bA (tL [] ++ (rs))),bv false])] 1 (fun _:Unit => True) (fun _ => sl cStmt []) (fun _ => [(0,some [sv (bA (rs)),bv false])]):=by
 rw [tL_nil,List.nil_append]
 rcases hr with rfl | ⟨q,rfl⟩
 ·have hee : ((bA []).toList == (⟨#[]⟩ : ByteArray).toList) = true := by
   show ((bA []).toList == (bA []).toList) = true
   rw [bA_toList]; rfl
  refine mc_start Tryz.func128 Tryz.ntmps128 ?_
  repeat' (first|(apply id_rw;(apply rx_sbin;rfl;rfl;(rfl);rfl))|refine stpb ?_|(refine stp2 ?_ ?_ <;> intro hc hq <;> try (exfalso;omega))|fail)
  all_goals first
   | (exfalso;omega)
   | (exfalso;rw [hee] at *; contradiction)
   | (refine rq_le (Le.nilImm (d := 4) rfl) ?_
      (refine rq_ret rfl ?_; refine mc_ret () trivial ?_ ⟨sE ?_,trivial⟩)
      ·rfl
      ·rfl)
 ·have c0 : ((bA (125 :: q))[Int.toNat 0]!.toNat : Int) = 125 := rfl
  have hne : ((bA (125 :: q)).toList == (⟨#[]⟩ : ByteArray).toList) = false := by
   show ((bA (125 :: q)).toList == (bA []).toList) = false
   rw [bA_toList,bA_toList]; rfl
  have z1 := bA_size (125 :: q)
  rw [List.length_cons] at z1
  refine mc_start Tryz.func128 Tryz.ntmps128 ?_
  repeat' (first|(apply id_rw;first|(apply rx_sbin;rfl;rfl;(rfl);rfl)|(apply rx_indexS;rfl;rfl;omega;rfl))|refine stpb ?_|(refine stp2 ?_ ?_ <;> intro hc hq <;> try (exfalso;omega))|fail)
  all_goals first
   | (exfalso;omega)
   | (exfalso;rw [hne] at *; contradiction)
   | (refine rq_le (Le.nilImm (d := 4) rfl) ?_
      (refine rq_ret rfl ?_; refine mc_ret () trivial ?_ ⟨sE ?_,trivial⟩)
      ·rfl
      ·rfl)
theorem jT_len:∀ (l:List AL.Stmt) (k:Nat),(jT (l.drop k)).length ≤ (jT l).length
 | [],k => by simp
 | s :: l,0 => by simp
 | s :: l, k + 1 => by
  have := jT_len l k
  rw [List.drop_succ_cons,jT_cons,List.length_cons,List.length_append]; omega
theorem rl_c (s0:AL.Stmt) (l:List AL.Stmt) (e:Int) (rs:List UInt8) (he:0 ≤ e ∧ e ≤ 4) (hr:RL rs) (hl:(tL (s0 :: l)).length + rs.length ≤ 90000) (hc:cntL (s0 :: l) ≤ 10000) (hn:∃ c r,tS s0 = c :: r ∧ c ≠ 125)
  (hst : ∀ k,k < (s0 :: l).length → ∀ q,(tS (s0 :: l)[k]!).length + q.length ≤ 90000 → RS q → MC Tryz.prog 193 [.optr 0 0,iv (e)] [(0,some [sv (bA (tS (s0 :: l)[k]! ++ (q))),bv false])] 1 (fun _ : Unit => True) (fun _ => aStmt (s0 :: l)[k]!) (fun _ => [(0,some [sv (bA (q)),bv false])])) : MC Tryz.prog 128 [.optr 0 0,iv (e)] [(0,some [sv (bA (tL (s0 :: l) ++ (rs))),bv false])] 1 (fun _ : Unit => True) (fun _ => sl cStmt (s0 :: l)) (fun _ => [(0,some [sv (bA (rs)),bv false])]) := by
 obtain ⟨c,r,hc1,hc2⟩ := hn
 have hlen := cntL_len (s0 :: l)
 rw [tL_jT,List.length_append] at hl
 have e0 : (s0 :: l)[0]! = s0 := rfl
 have hs0 := hst 0 (by simp) (jT l ++ rs) (by rw [List.length_append,e0]; omega) (hr.jT l)
 rw [e0] at hs0
 have c0 : ((bA (tS s0 ++ (jT l ++ rs)))[Int.toNat 0]!.toNat : Int) = c.toNat := by rw [hc1]; rfl
 have c1 : ((bA (tS s0 ++ (jT l ++ rs)))[Int.toNat 0]!.toNat : Int) ≠ 125 := by rw [c0]; intro h;exact hc2 (UInt8.toNat_inj.1 (by show c.toNat = 125;omega))
 have hne : ((bA (tS s0 ++ (jT l ++ rs))).toList == (⟨#[]⟩ : ByteArray).toList) = false := by
  show ((bA (tS s0 ++ (jT l ++ rs))).toList == (bA []).toList) = false
  rw [bA_toList,bA_toList,hc1]; rfl
 have z1 := bA_size (tS s0 ++ (jT l ++ rs))
 rw [hc1] at z1
 simp only [List.length_cons,List.cons_append] at z1
 rw [← List.cons_append,← hc1] at z1
 rw [tL_jT,List.append_assoc]
 refine mc_start Tryz.func128 Tryz.ntmps128 ?_
 repeat' (first|(apply id_rw;first|(apply rx_rstmt (s := s0);rfl;rfl;rfl;exact hs0;rfl;rfl)|(apply rx_sbin;rfl;rfl;(rfl);rfl)|(apply rx_indexS;rfl;rfl;omega;rfl))|refine stpb ?_|(refine stp2 ?_ ?_ <;> intro hc hq <;> try (exfalso;omega))|fail)
 all_goals first
  | (exfalso;omega)
  | (exfalso;rw [hne] at *; contradiction)
  | skip
 have q1 : [iv s0.op,iv s0.x,iv s0.y,iv s0.n,sl cStmt s0.th,sl cStmt s0.el] = flat cStmt [s0] := ((flat_one _ _).trans (cStmt_def s0)).symm
 rw [q1]
 refine aw_loopA (σ := Nat × List AL.Stmt) [0,1] [] (fun k => [(5,.own 1 0 (k.1 + 1) 6)]) (fun k => [(1,some (flat cStmt k.2)),(0,some [sv (bA (jT ((s0 :: l).drop (k.1 + 1)) ++ rs)),bv false])]) (fun k => k.1 < (s0 :: l).length ∧ k.2 = (s0 :: l).take (k.1 + 1)) (fun k => (s0 :: l).length - k.1) (0,[s0]) ⟨by simp,rfl⟩ ?_
 rintro ⟨k,xs⟩ ⟨hk,hxs⟩
 dsimp only at hk hxs ⊢
 have hxl : xs.length = k + 1 := by rw [hxs,List.length_take]; omega
 have hjl := jT_len (s0 :: l) (k + 1)
 rw [jT_cons,List.length_cons,List.length_append] at hjl
 by_cases hkn : k + 1 < (s0 :: l).length
 ·have hdr : (s0 :: l).drop (k + 1) = (s0 :: l)[k + 1]! :: (s0 :: l).drop (k + 1 + 1) := drop_consB _ _ hkn
  rw [hdr,jT_cons,List.length_cons,List.length_append] at hjl
  rw [hdr,jT_cons]
  simp only [List.cons_append,List.append_assoc]
  have hs1 := hst (k + 1) hkn (jT ((s0 :: l).drop (k + 1 + 1)) ++ rs) (by rw [List.length_append]; omega) (hr.jT _)
  have htk := take_succB (s0 :: l) (k + 1) hkn
  generalize (s0 :: l)[k + 1]! = s1 at *
  repeat' (first|(apply id_rw;first|(apply rx_hasT;rfl;rfl;rfl;(exact hasT_c _ _ _ _ rfl (by simp only [List.length_cons,List.length_append,List.length_nil] at *; omega) (by decide));rfl;rfl)|(apply rx_rstmt (s := s1);rfl;rfl;rfl;exact hs1;rfl;rfl)|(apply rx_buildSliceI (t := _);rfl;rfl;rfl;(exact (rfl:_=some [_,_,_,_,_,_]));rfl;rfl))|refine stpb ?_|fail)
  (refine ex3 (k + 1,_) (Le.renA [(1,3)]) ?_ ?_)
  ·exact ⟨hkn,by dsimp only;rw [hxs,htk]⟩
  ·dsimp only;omega
 ·have hdr : (s0 :: l).drop (k + 1) = [] := List.drop_of_length_le (by omega)
  have hsm := hr.semi
  rw [hdr,jT_nil,List.nil_append]
  repeat' (first|(apply id_rw;(apply rx_hasF;rfl;rfl;rfl;exact hasF_c _ _ _ hsm (by omega) (by decide);rfl;rfl))|refine stpb ?_|fail)
  have hx2 : xs = s0 :: l := by rw [hxs]; exact List.take_of_length_le (by omega)
  have hln : (s0 :: l).length = k + 1 := by omega
  refine rq_le (Le.frzD (d := 4) (i := 1) rfl rfl) ?_
  (refine rq_ret rfl ?_; refine mc_ret () trivial ?_ ⟨sE ?_,trivial⟩)
  ·show AV.imm (k + 1) (flat cStmt xs) = sl cStmt (s0 :: l)
   rw [hx2,← hln]
  ·rfl
def RsC (s : AL.Stmt) (e : Int) (rs : List UInt8) : Prop := MC Tryz.prog 193 [.optr 0 0,iv e] [(0,some [sv (bA (tS s ++ rs)),bv false])] 1 (fun _ : Unit => True) (fun _ => aStmt s) (fun _ => [(0,some [sv (bA rs),bv false])])
def RlC (l : List AL.Stmt) (e : Int) (rs : List UInt8) : Prop := MC Tryz.prog 128 [.optr 0 0,iv e] [(0,some [sv (bA (tL l ++ rs)),bv false])] 1 (fun _ : Unit => True) (fun _ => sl cStmt l) (fun _ => [(0,some [sv (bA rs),bv false])])
theorem rsS_c {ts:List Int}(ht:typesOk ts = true){o x y n:Int}(e:Int) (rs:List UInt8) (h:simpleF ts (.mk o x y n [] []) = true) (hr:RS rs) (hl:rs.length ≤ 90000):RsC (.mk o x y n [] []) e rs:=by
 have hb := simple_bd ht h
 have hc := simple_can h
 simp only [AL.Stmt.op,AL.Stmt.x,AL.Stmt.y,AL.Stmt.n] at hb hc
 obtain ⟨b1,b2,b3,b4,b5,b6,b7⟩ := hb
 obtain ⟨c1,c2⟩ := hc
 have h18 : o = 1 ∨ o = 2 ∨ o = 3 ∨ o = 4 ∨ o = 5 ∨ o = 6 ∨ o = 7 ∨ o = 8 := by omega
 rcases h18 with rfl|rfl|rfl|rfl|rfl|rfl|rfl|rfl
 ·obtain rfl := c1 (by decide);exact rs1_c x n e rs ⟨b3,b4⟩ (b7 (by decide)) hr hl
 ·obtain rfl := c1 (by decide);exact rs2_c x n e rs ⟨b3,b4⟩ (b7 (by decide)) hr hl
 ·obtain rfl := c2 (by decide) (by decide);exact rs3_c x y e rs ⟨b3,b4⟩ ⟨b5,b6⟩ hr hl
 ·obtain rfl := c2 (by decide) (by decide);exact rs4_c x y e rs ⟨b3,b4⟩ ⟨b5,b6⟩ hr hl
 ·obtain rfl := c2 (by decide) (by decide);exact rs5_c x y e rs ⟨b3,b4⟩ ⟨b5,b6⟩ hr hl
 ·obtain rfl := c2 (by decide) (by decide);exact rs6_c x y e rs ⟨b3,b4⟩ ⟨b5,b6⟩ hr hl
 ·obtain rfl := c2 (by decide) (by decide);exact rs7_c x y e rs ⟨b3,b4⟩ ⟨b5,b6⟩ hr hl
 ·obtain rfl := c2 (by decide) (by decide);obtain rfl := c1 (by decide);exact rs8_c x e rs ⟨b3,b4⟩ hr hl
mutual
theorem rstmt_c {ts:List Int}(ht:typesOk ts = true):∀ (s:AL.Stmt) (d:Nat) (e:Int) (rs:List UInt8),d ≤ 4 → e + d = 4 → okS ts d s = true → RS rs → cntS s ≤ 10000 → (tS s).length + rs.length ≤ 90000 → RsC s e rs
 | .mk op x y n th el, d, e, rs, hd, he, h, hr, hc, hl => by
  simp only [okS] at h
  split at h
  ·rename_i h9
   simp only [Bool.and_eq_true,List.isEmpty_iff] at h
   obtain ⟨⟨rfl,rfl⟩,h⟩ := h
   exact rsS_c ht e rs h hr (by omega)
  ·rename_i h9
   cases d with
   | zero => cases h
   | succ d =>
    simp only [Bool.and_eq_true,decide_eq_true_eq] at h
    obtain ⟨⟨⟨⟨rfl,rfl,rfl⟩,h10⟩,h1⟩,h2⟩ := h
    simp only [cntS] at hc
    by_cases e9 : op = 9
    ·subst e9
     rw [tS9] at hl
     simp only [List.length_append,List.length_cons,List.length_nil] at hl
     exact rs9_c th el e rs (by omega) (by omega) (rstmts_c ht th d (e + 1) (125 :: 123 :: (tL el ++ 125 :: rs)) (by omega) (by omega) h1 (.inr ⟨_, rfl⟩) (by omega) (by simp only [List.length_append, List.length_cons]; omega))
      (rstmts_c ht el d (e + 1) (125 :: rs) (by omega) (by omega) h2 (.inr ⟨_,rfl⟩) (by omega) (by simp only [List.length_cons]; omega))
    ·obtain rfl : op = 10 := by omega
     have hel : el = [] := by
      cases el with
      | nil => rfl
      | cons a b => simp at h10
     subst hel
     rw [tS10] at hl
     simp only [List.length_append,List.length_cons,List.length_nil] at hl
     exact rs10_c th e rs (by omega) (by omega) (rstmts_c ht th d (e + 1) (125 :: rs) (by omega) (by omega) h1 (.inr ⟨_,rfl⟩) (by omega) (by simp only [List.length_cons]; omega))
theorem rstmts_c {ts:List Int}(ht:typesOk ts = true):∀ (l:List AL.Stmt) (d:Nat) (e:Int) (rs:List UInt8),d ≤ 4 → e + d = 4 → okL ts d l = true → RL rs → cntL l ≤ 10000 → (tL l).length + rs.length ≤ 90000 → RlC l e rs
 | [],d,e,rs,hd,he,h,hr,hc,hl => rl0_c e rs (by omega) hr (by omega)
 | s :: l, d, e, rs, hd, he, h, hr, hc, hl => by
  have h0 := h
  have hc0 := hc
  simp only [okL,Bool.and_eq_true] at h0
  simp only [cntL] at hc0
  refine rl_c s l e rs (by omega) hr hl hc (tS_ne ht h0.1) fun k hk q hq hrq => ?_
  cases k with
  | zero => exact rstmt_c ht s d e q hd he h0.1 hrq (by omega) hq
  | succ k => exact rall_c ht l d e hd he h0.2 (by omega) k (by simpa using hk) q hq hrq
theorem rall_c {ts:List Int}(ht:typesOk ts = true):∀ (l:List AL.Stmt) (d:Nat) (e:Int),d ≤ 4 → e + d = 4 → okL ts d l = true → cntL l ≤ 10000 → ∀ k,k < l.length → ∀ q,(tS l[k]!).length + q.length ≤ 90000 → RS q → RsC l[k]! e q
 | [],d,e,hd,he,h,hc,k,hk,q,hq,hr => absurd hk (by simp)
 | s :: l, d, e, hd, he, h, hc, k, hk, q, hq, hr => by
  simp only [okL,Bool.and_eq_true] at h
  simp only [cntL] at hc
  cases k with
  | zero => exact rstmt_c ht s d e q hd he h.1 hr (by omega) hq
  | succ k => exact rall_c ht l d e hd he h.2 (by omega) k (by simpa using hk) q hq hr
end
instance : CaT Tryz.prog 182:=⟨by kernel_rfl⟩
instance : CaT Tryz.prog 120:=⟨by kernel_rfl⟩
theorem indexC_c (s:List UInt8) (c:UInt8):PC Tryz.prog 182 [sv (bA s),sv (bA [c])] (fun r => r = iv (Lib.indexByte s c)):=by
 refine pc_of_calls fun w bad ι vals hv => ?_
 simp only [RdV,Rd] at hv
 obtain ⟨y,l,rfl,rfl,y2,l2,rfl,rfl,rfl⟩ := hv
 refine (Tryz.stringslite_Index_one (bA s) c w).mono ?_
 rintro e w' ⟨rfl,rfl⟩
 exact ⟨_,iv _,rfl,rfl,rfl,fun _ _ _ => by simp only [Rd]; rfl,Below.refl _ _⟩
theorem indexB_c (s:List UInt8) (c:UInt8):PC Tryz.prog 127 [sv (bA s),.v (.int .u8 (c.toNat:Int))] (fun r => r = iv (Lib.indexByte s c)):=by
 refine pc_of_calls fun w bad ι vals hv => ?_
 simp only [RdV,Rd] at hv
 obtain ⟨y,l,rfl,rfl,y2,l2,rfl,rfl,rfl⟩ := hv
 refine (Tryz.strings_IndexByte (bA s) (c.toNat : Int) w).mono ?_
 rintro e w' ⟨rfl,rfl⟩
 have e1 : (c.toNat : Int).toNat.toUInt8 = c := by simp
 rw [e1]
 exact ⟨_,iv _,rfl,rfl,rfl,fun _ _ _ => by simp only [Rd]; rfl,Below.refl _ _⟩
theorem indexByte_none (c:UInt8):∀ s:List UInt8,c ∉ s → Lib.indexByte s c = -1
 | [],_ => rfl
 | b :: a, h => by
  have hb : ¬ b = c := fun e => h (by simp [e])
  have ih := indexByte_none c a (fun q => h (List.mem_cons_of_mem _ q))
  rw [Lib.indexByte,ih]
  have h1 : (b == c) = false := by simpa using hb
  rw [h1]; rfl
theorem cutH0_c (a r:List UInt8) (c:UInt8) (h:c ∉ a) (hl:a.length + r.length ≤ 100000):PC Tryz.prog 120 [sv (bA (a ++ c :: r)),sv (bA [c])] (fun x => x = .tup [sv (bA a),sv (bA r),bv true]):=by
 have hi := indexC_c (a ++ c :: r) c
 rw [indexByte_at c r a h] at hi
 have z1 := bA_size (a ++ c :: r)
 have z2 : (bA [c]).size = 1 := rfl
 rw [List.length_append,List.length_cons] at z1
 have e1 : (bA (a ++ c :: r)).extract 0 a.length = bA a := by rw [bA_take,List.take_left]
 have e2 : (bA (a ++ c :: r)).extract (a.length + 1) (bA (a ++ c :: r)).size = bA r := by
  rw [bA_size,bA_drop,show a ++ c :: r = (a ++ [c]) ++ r by simp,show a.length + 1 = (a ++ [c]).length by simp,List.drop_left]
 refine pc_start Tryz.func120 Tryz.ntmps120 ?_
 repeat' (first|(apply id_rw;first|(apply rx_callE (k := 182);rfl;exact hi;(rfl);rfl)|(apply rx_sliceS;rfl;(rfl);(rfl);omega;rfl))|refine stpb ?_|refine stpd ?_|fail)
 refine rq_ret (l := [sv ((bA (a ++ c :: r)).extract 0 a.length),sv ((bA (a ++ c :: r)).extract (a.length + 1) (bA (a ++ c :: r)).size),bv true]) rfl ⟨?_,rfl⟩
 rw [e1,e2]; rfl
theorem cutM0_c (a:List UInt8) (c:UInt8) (h:c ∉ a):PC Tryz.prog 120 [sv (bA a),sv (bA [c])] (fun x => x = .tup [sv (bA a),sv (bA []),bv false]):=by
 have hi := indexC_c a c
 rw [indexByte_none c a h] at hi
 refine pc_start Tryz.func120 Tryz.ntmps120 ?_
 repeat' (first|(apply id_rw;(apply rx_callE (k := 182);rfl;exact hi;(rfl);rfl))|refine stpb ?_|fail)
 exact rq_ret rfl ⟨rfl,rfl⟩
theorem cutH_c (a r:List UInt8) (c:UInt8) (h:c ∉ a) (hl:a.length + r.length ≤ 100000):PC Tryz.prog 81 [sv (bA (a ++ c :: r)),sv (bA [c])] (fun x => x = .tup [sv (bA a),sv (bA r),bv true]):=by
 have hi := cutH0_c a r c h hl
 refine pc_start Tryz.func81 Tryz.ntmps81 ?_
 repeat' (first|(apply id_rw;(apply rx_callE (k := 120);rfl;exact hi;(rfl);rfl))|refine stpb ?_|fail)
 exact rq_ret rfl ⟨rfl,rfl⟩
theorem cutM_c (a:List UInt8) (c:UInt8) (h:c ∉ a):PC Tryz.prog 81 [sv (bA a),sv (bA [c])] (fun x => x = .tup [sv (bA a),sv (bA []),bv false]):=by
 have hi := cutM0_c a c h
 refine pc_start Tryz.func81 Tryz.ntmps81 ?_
 repeat' (first|(apply id_rw;(apply rx_callE (k := 120);rfl;exact hi;(rfl);rfl))|refine stpb ?_|fail)
 exact rq_ret rfl ⟨rfl,rfl⟩
theorem tyB_ix {t:Int}(h:1 ≤ t ∧ t ≤ 4):Lib.indexByte [105,98,114,109] (tyB t) = t - 1:=by
 have h14 : t = 1 ∨ t = 2 ∨ t = 3 ∨ t = 4 := by omega
 rcases h14 with rfl|rfl|rfl|rfl <;> rfl
theorem tyB_no (l:List Int):(58:UInt8) ∉ l.map tyB:=by
 simp only [List.mem_map,not_exists,not_and]
 exact fun t _ e => (tyB_ne (t := t)).1 e
theorem bA_get (l:List UInt8) (k:Nat) (h:k < l.length):(bA l)[k]! = l[k]!:=by
 rw [getElem!_pos (bA l) k (by rw [bA_size]; exact h),getElem!_pos l k h]; rfl
theorem parse_c (p:Prg) (hv:validF p = true):PC Tryz.prog 83 [sv (bA (tP p))] (fun r => r = .tup [aPrg p,bv true]):=by
 have hpt := progText_c p hv
 have hv0 := hv
 unfold validF at hv
 simp only [Bool.and_eq_true,decide_eq_true_eq] at hv
 obtain ⟨⟨h1,h2⟩,h3⟩ := hv
 have htl := typesOk_len h1
 have hval := validI_c p (by omega) (by omega)
 rw [hv0] at hval
 have hsz := textL_size p.body
 have htz := tP_size hv0
 have hlz : (tL p.body).length = (textL p.body).size := rfl
 have hcut := cutH_c (p.types.map tyB) (tL p.body ++ []) 58 (tyB_no _) (by rw [List.length_map,List.append_nil]; omega)
 have eT : p.types.map tyB ++ 58 :: (tL p.body ++ []) = tP p := by rw [List.append_nil]; rfl
 rw [eT] at hcut
 have z1 := bA_size (tP p)
 have z2 : (bA (p.types.map tyB)).size = p.types.length := by rw [bA_size,List.length_map]
 have hst := rstmts_c h1 p.body 4 0 [] (by omega) (by omega) h2 (.inl rfl) (by omega) (by rw [List.length_nil]; omega)
 unfold RlC at hst
 have hsf : ((bA (tP p)).toList == (bA (tP p)).toList) = true := beq_self_eq_true _
 have hse : ((bA []).toList == (⟨#[]⟩ : ByteArray).toList) = true := beq_self_eq_true (bA []).toList
 refine pc_start Tryz.func83 Tryz.ntmps83 ?_
 repeat' (first|(apply id_rw;(apply rx_callE (k := 81);rfl;exact hcut;(rfl);rfl))|refine stpb ?_|(refine stp2 ?_ ?_ <;> intro hc hq <;> try (exfalso;omega))|fail)
 all_goals try (exfalso;omega)
 refine AW.le ?_ (Le.nilCell (i := 1) 1 [] rfl (by decide) (by decide))
 refine aw_loopA (σ := Nat) [0,2,4,5,7,21] [0] (fun k => [(22,iv (k : Int))]) (fun k => [(1,some [.own 2 0 k 1,.v (.slice none 0 0)]),(2,some (flat cI (p.types.take k)))]) (fun k => k ≤ p.types.length) (fun k => p.types.length - k) (0) (Nat.zero_le _) ?_
 intro k hk
 have hxl : (p.types.take k).length = k := by rw [List.length_take]; omega
 by_cases hkn : k < p.types.length
 ·have ht := typesOk_at h1 k hkn
  have hix := indexB_c [105,98,114,109] (tyB p.types[k]!)
  rw [tyB_ix ht] at hix
  have hge : ((bA (p.types.map tyB))[(k : Int).toNat]!.toNat : Int) = (tyB p.types[k]!).toNat := by
   rw [Int.toNat_natCast,bA_get _ _ (by rw [List.length_map]; exact hkn),getB _ _ (by rw [List.length_map]; exact hkn),List.getElem_map,getB _ _ hkn]
  rw [← hge] at hix
  have htk := take_succB p.types k hkn
  have ek : 1 + (p.types[k]! - 1) = p.types[k]! := by omega
  repeat' (first|(apply id_rw;first|(apply rx_callE (k := 127);rfl;exact hix;(rfl);rfl)|(apply rx_indexS;rfl;rfl;omega;rfl))|refine stpb ?_|(refine stp2 ?_ ?_ <;> intro hc hq <;> try (exfalso;omega))|refine stpd ?_|fail)
  rw [ek,← htk]
  (refine ex3 (k + 1) (Le.renA [(0,0),(1,1),(2,4)]) ?_ ?_)
  ·exact hkn
  ·omega
 ·repeat' (first | (apply id_rw; (with_reducible apply rw_stop (d := 36))) | refine stpb ?_ | (refine stp2 ?_ ?_ <;> intro hc hq <;> try (exfalso; omega))|fail)
  have hke : k = p.types.length := by omega
  subst hke
  refine rw_go ?_
  rw [List.take_length]
  refine rw_le ?_ (Le.frzC (j := 1) (i := 2) [] rfl rfl (by decide))
  repeat' (first|(apply id_rw;first|(apply rx_rstmts (l := p.body) (e := 0) (rs := []);rfl;rfl;rfl;exact hst;rfl;rfl)|(apply rx_callE (k := 17);rfl;exact hval;exact Pur.pf;rfl)|(apply rx_callE (k := 48);rfl;exact hpt;exact Pur.pf;rfl)|(apply rx_sbin;rfl;rfl;(rfl);rfl))|refine stpb ?_|(refine stp2 ?_ ?_ <;> intro hc hq <;> try (exfalso;omega))|(refine stp3 ?_ ?_ <;> intro hg hq <;> try (exfalso;omega))|fail)
  all_goals first
   | (exfalso;rw [hsf] at *; contradiction)
   | (exfalso;rw [hse] at *; contradiction)
   | exact rq_ret (l := [aPrg p,bv true]) rfl ⟨rfl,by exact Pur.pf⟩
end Go.Proofs.YtjnhlgpbojggnaaGreatDoor
namespace Go.Proofs.YtjnhlgpbojggnaaGreatDoor
open Go Go.AL Go.RowKit
theorem ScI.start (W:World) (L:List ByteArray):ScI 63 5 9 W W.heap.size (W.heap.size + 1) (W.heap.size + 2) L ⟨[],[]⟩ []
  (((W.alloc (Obj.cells #[Value.slice none 0 0,Value.slice none 0 0] 60)).alloc (Obj.cells #[Value.pointer none,Value.slice none 0 0] 63)).alloc (Obj.cells (List.map Value.string L).toArray 9)) := by
 generalize hA : (Obj.cells #[Value.slice none 0 0,Value.slice none 0 0] 60) = A
 generalize hB : (Obj.cells #[Value.pointer none,Value.slice none 0 0] 63) = B
 generalize hC : (Obj.cells (List.map Value.string L).toArray 9) = C
 have s1 : (W.alloc A).heap.size = W.heap.size + 1 := by simp
 have s2 : ((W.alloc A).alloc B).heap.size = W.heap.size + 2 := by simp
 have hx : (((W.alloc A).alloc B).alloc C).heap[W.heap.size]? = some A := by
  rw [Below.heap_alloc _ _ _ (by omega),Below.heap_alloc _ _ _ (by omega)]; exact World.alloc_heap_new W A
 have ho : (((W.alloc A).alloc B).alloc C).heap[W.heap.size + 1]? = some B := by
  rw [Below.heap_alloc _ _ _ (by omega),← s1]; exact World.alloc_heap_new _ B
 have hl : (((W.alloc A).alloc B).alloc C).heap[W.heap.size + 2]? = some C := by
  rw [← s2]; exact World.alloc_heap_new _ C
 subst hA hB hC
 have hv : ∀ q, Xb (W.heap.size + 1) (((W.alloc (Obj.cells #[Value.slice none 0 0, Value.slice none 0 0] 60)).alloc (Obj.cells #[Value.pointer none, Value.slice none 0 0] 63)).alloc (Obj.cells (List.map Value.string L).toArray 9)) q → q = W.heap.size + 1 := by
  rintro q (h | ⟨v,h1,h2⟩)
  ·exact h
  ·rw [Lib.cell_of_heap ho] at h1
   injection h1 with h1
   subst h1
   cases h2
 refine ⟨(((Below.refl _ W).alloc (Nat.le_refl _) _).alloc (by omega) _).alloc (by omega) _,Nat.le_refl _,Nat.le_succ _,by omega,by omega,by omega,.inl ⟨Nat.le_succ _,_,ho,World.ownsRowF_nil _ _ _ _,by simp [Value.ownBlock]⟩,hl,fun h => by have := hv _ h;omega,fun h => by have := hv _ h;omega,⟨_,_,hx,Nat.le_refl _,?_⟩⟩
 have h0 : ∀ o, o < 2 → (((W.alloc (Obj.cells #[Value.slice none 0 0, Value.slice none 0 0] 60)).alloc (Obj.cells #[Value.pointer none, Value.slice none 0 0] 63)).alloc (Obj.cells (List.map Value.string L).toArray 9)).cell? ⟨W.heap.size, o, none⟩ = some (.slice none 0 0) := fun o h => by
  rw [Lib.cell_of_heap hx]
  match o,h with
  | 0,_ => rfl
  | 1,_ => rfl
 simp only [RdC]
 exact ⟨⟨_,h0 0 (by decide),rfl,by show Rd _ _ _ (.imm 0 []) _; simp only [Rd]; exact ⟨none,0,rfl,.inl trivial⟩⟩,⟨_,h0 1 (by decide),rfl,by show Rd _ _ _ (.imm 0 []) _; simp only [Rd]; exact ⟨none,0,rfl,.inl trivial⟩⟩,trivial⟩
theorem runScript_raw (s:ByteArray) (L:List ByteArray) (W:World) (hs:s.size ≤ 20000)
 (pF : Nat → Prg) (oF : Nat → List UInt8) (h0 : pF 0 = ⟨[],[]⟩) (h00 : oF 0 = []) (hL : L.length ≤ 200) (hO : ∀ k,k < L.length → L[k]! ≠ ⟨#[]⟩ → (oF k).length ≤ 40000) (hO3 : ∀ k,k ≤ L.length → (oF k).length ≤ 100000000)
 (hstep : ∀ k, k < L.length → (L[k]! = ⟨#[]⟩ → pF (k + 1) = pF k ∧ oF (k + 1) = oF k) ∧ (L[k]! ≠ ⟨#[]⟩ → ∃ t : ByteArray, oF (k + 1) = oF k ++ t.data.toList ∧
  MC Tryz.prog 47 [.optr 0 0,sv L[k]!] [(0,some [sl cI (pF k).types,sl cStmt (pF k).body])] 1 (fun _ : Unit => True) (fun _ => sv t) (fun _ => [(0,some [sl cI (pF (k + 1)).types,sl cStmt (pF (k + 1)).body])])))
 (hsplit : ∀ w,Calls Tryz.prog 43 #[.string s,.string ⟨#[10]⟩] w fun e w' => e = .returned (.slice (some ⟨w.heap.size,0,none⟩) L.length L.length) ∧ w' = w.alloc (.cells (L.map Value.string).toArray 9)) :
 Calls Tryz.prog 13 #[.string s] W fun e w' => e = .returned (.string ⟨(oF L.length).toArray⟩) ∧ Below W.heap.size W w' := by
 have e20 : ∀ args w,(callFunc 42 args).run Tryz.prog w = .ok (.enter 42 args) w := enters_of Tryz.func42 (by kernel_rfl) rfl
 have e21 : ∀ args w,(callFunc 43 args).run Tryz.prog w = .ok (.enter 43 args) w := enters_of Tryz.func43 (by kernel_rfl) rfl
 have e22 : ∀ args w,(callFunc 44 args).run Tryz.prog w = .ok (.enter 44 args) w := enters_of Tryz.func44 (by kernel_rfl) rfl
 have e23 : ∀ args w,(callFunc 45 args).run Tryz.prog w = .ok (.enter 45 args) w := enters_of Tryz.func45 (by kernel_rfl) rfl
 have e24 : ∀ args w,(callFunc 46 args).run Tryz.prog w = .ok (.enter 46 args) w := enters_of Tryz.func46 (by kernel_rfl) rfl
 have e25 : ∀ args w,(callFunc 47 args).run Tryz.prog w = .ok (.enter 47 args) w := enters_of Tryz.func47 (by kernel_rfl) rfl
 have hs1 : ¬ ((s.size : Int) > 20000) := by omega
 have hs2 : ¬ ((20000 : Int) < (s.size : Int)) := by omega
 have mixed : Tryz.prog.follows .mixedOrders = true := by kernel_rfl
 go_enter Tryz.func13,Tryz.ntmps13
 go_wp2_with (go_at_fn 43;refine (hsplit _).mono ?_; rintro e w' ⟨rfl,hw⟩; rw [hw])
 have I0 := ScI.start W L
 go_loopg [16] L.length (fun g s16 wr => ∃ k : Nat,s16 = .int .i64 k ∧ k ≤ L.length ∧ g = L.length - k ∧ ScI 63 5 9 W W.heap.size (W.heap.size + 1) (W.heap.size + 2) L (pF k) (oF k) wr)
 case atStart => exact ⟨0,rfl,Nat.zero_le _,rfl,by rw [h0,h00]; exact I0⟩
 case round =>
  obtain ⟨k,rfl,hk,rfl,I⟩ := hrel
  by_cases hlt : k < L.length
  ·have hlz : (k : Int) < (L.length : Int) := by omega
   have hlen' := hO k hlt
   have h200 : ¬ ((k : Int) ≥ 200) := by omega
   have h201 : ¬ (200 ≤ (k : Int)) := by omega
   obtain ⟨hst1,hst2⟩ := hstep k hlt
   have hget : L[k]? = some L[k]! := by rw [List.getElem?_eq_getElem hlt,getB _ _ hlt]
   generalize L[k]! = x at hst1 hst2 hget hlen'
   have hc : wr.cell? ⟨W.heap.size + 2,k,none⟩ = some (.string x) := by rw [Lib.cell_of_heap I.ln,List.getElem?_toArray,List.getElem?_map,hget]; rfl
   by_cases he : x = ⟨#[]⟩
   ·have hE : x.toList.isEmpty = true := by rw [he, Lib.toList_data]; rfl
    have hE2 : (x == ⟨#[]⟩) = true := by rw [he]; rfl
    obtain ⟨hp,ho⟩ := hst1 he
    go_wp2
    go_roundg (L.length - (k + 1))
    case measure => omega
    case rel => exact ⟨k + 1,rfl,by omega,by omega,by rw [hp,ho]; exact I⟩
   ·have hE : x.toList.isEmpty = false := by
     rw [Lib.toList_data]
     cases hx : x.data.toList with
     | nil => exact absurd (by cases x with|mk d => cases d with|mk l => simp at hx;rw [hx]) he
     | cons _ _ => rfl
    have hlen : (oF k).length ≤ 40000 := hlen' he
    have h400 : ¬ (((oF k).length : Int) > 40000) := by omega
    have h401 : ¬ (40000 < ((oF k).length : Int)) := by omega
    obtain ⟨t,ho,hdo⟩ := hst2 he
    go_wp2_with (first|(go_at_fn 44;refine (Tryz.Builder_Len_f W.heap.size (W.heap.size + 1) _ _ I.bd).mono ?_; rintro e w1 ⟨rfl,rfl⟩; rw [Lib.byteCells_length])|(go_at_fn 47;refine (I.do hdo).mono ?_; rintro e w2 ⟨rfl,I2⟩))
    have hO2 := hO3 (k + 1) (by omega)
    rw [ho,List.length_append] at hO2
    have ht : t.data.toList.length = t.size := by rw [Array.length_toList]; rfl
    refine (ScI.write (P := Tryz.prog) (ρ := Tryz.lays156_ren) { Tryz.lays156 with } Tryz.Builder_Extra_156 I2 t (by omega)).mono ?_
    rintro e w3 ⟨rfl,I3⟩
    go_wp2
    go_roundg (L.length - (k + 1))
    case measure => omega
    case rel => exact ⟨k + 1,rfl,by omega,by omega,by rw [ho]; exact I3⟩
  ·have hlz : ¬ ((k : Int) < (L.length : Int)) := by omega
   obtain rfl : k = L.length := by omega
   go_wp2_with (go_at_fn 45;refine (Tryz.Builder_String_any_f W.heap.size (W.heap.size + 1) (oF L.length) _ I.bd I.bw.size).mono ?_; rintro e w1 ⟨rfl,hw1⟩)
   go_ret
   exact ⟨rfl,I.bw.trans hw1.2⟩
def lns (s : ByteArray) : List ByteArray := Lib.splitB ⟨#[10]⟩ 0 (Lib.countB s ⟨#[10]⟩) s
theorem runScript_c (s:ByteArray) (hs:s.size ≤ 20000) (pF:Nat → Prg) (oF:Nat → List UInt8) (h0:pF 0 = ⟨[],[]⟩) (h00:oF 0 = []) (hL:(lns s).length ≤ 200) (hO:∀ k,k < (lns s).length → (lns s)[k]! ≠ ⟨#[]⟩ → (oF k).length ≤ 40000) (hO3:∀ k,k ≤ (lns s).length → (oF k).length ≤ 100000000)
  (hstep : ∀ k, k < (lns s).length → ((lns s)[k]! = ⟨#[]⟩ → pF (k + 1) = pF k ∧ oF (k + 1) = oF k) ∧ ((lns s)[k]! ≠ ⟨#[]⟩ → ∃ t : ByteArray, oF (k + 1) = oF k ++ t.data.toList ∧
   MC Tryz.prog 47 [.optr 0 0,sv (lns s)[k]!] [(0,some [sl cI (pF k).types,sl cStmt (pF k).body])] 1 (fun _ : Unit => True) (fun _ => sv t) (fun _ => [(0,some [sl cI (pF (k + 1)).types,sl cStmt (pF (k + 1)).body])]))) :
  PC Tryz.prog 13 [sv s] (fun r => r = sv ⟨(oF (lns s).length).toArray⟩) := by
 refine pc_of_calls fun w bad ι vals hv => ?_
 simp only [RdV,Rd] at hv
 obtain ⟨y,l,rfl,rfl,rfl⟩ := hv
 refine (runScript_raw s (lns s) w hs pF oF h0 h00 hL hO hO3 hstep (fun w' => Split_one Tryz.lays146 (by kernel_rfl) s 10 w' (by omega))).mono ?_
 rintro e w' ⟨rfl,hb⟩
 exact ⟨_,sv _,rfl,rfl,rfl,fun _ _ _ => by simp only [Rd],hb⟩
def DoC (p : Prg) (s t : List UInt8) (q : Prg) : Prop :=
 MC Tryz.prog 47 [.optr 0 0,sv (bA s)] [(0,some [sl cI p.types,sl cStmt p.body])] 1 (fun _ : Unit => True) (fun _ => sv (bA t)) (fun _ => [(0,some [sl cI q.types,sl cStmt q.body])])
theorem lns2 {a b:List UInt8}(ha:(10:UInt8) ∉ a) (hb:(10:UInt8) ∉ b):lns (bA (a ++ 10 :: (b ++ [10]))) = [bA a,bA b,⟨#[]⟩]:=by
 unfold lns
 rw [splitB_of]
 show (Lib.split (a ++ 10 :: (b ++ [10])) [10]).map _ = _
 rw [split2 ha hb]; rfl
theorem lns3 {a b c:List UInt8}(ha:(10:UInt8) ∉ a) (hb:(10:UInt8) ∉ b) (hc:(10:UInt8) ∉ c):lns (bA (a ++ 10 :: (b ++ 10 :: (c ++ [10])))) = [bA a,bA b,bA c,⟨#[]⟩]:=by
 unfold lns
 rw [splitB_of]
 show (Lib.split (a ++ 10 :: (b ++ 10 :: (c ++ [10]))) [10]).map _ = _
 rw [split3 ha hb hc]; rfl
theorem bA_ne {l:List UInt8}(h:l ≠ []):bA l ≠ ⟨#[]⟩ := fun e => h (bA_inj (m := []) e)
theorem script2L_c {a b t u:List UInt8}{p q:Prg}(ha:(10:UInt8) ∉ a) (hb:(10:UInt8) ∉ b) (na:a ≠ []) (nb:b ≠ []) (h1:DoC ⟨[],[]⟩ a t p) (h2:DoC p b u q) (hl:a.length + b.length ≤ 10000) (ht:t.length ≤ 40000) (hu:u.length ≤ 50000000) :
  PC Tryz.prog 13 [sv (bA (a ++ 10 :: (b ++ [10])))] (fun r => r = sv (bA (t ++ u))) := by
 have hL := lns2 ha hb
 have h := runScript_c (bA (a ++ 10 :: (b ++ [10]))) (by rw [bA_size]; simp only [List.length_append, List.length_cons, List.length_nil]; omega) (fun k => match k with | 0 => ⟨[], []⟩ | 1 => p | _ => q) (fun k => match k with | 0 => [] | 1 => t | _ => t ++ u) rfl rfl (by rw [hL]; simp)
  (fun k hk hne => by
   rw [hL] at hk hne
   match k,hk,hne with
   | 0,_,_ => exact Nat.zero_le _
   | 1,_,_ => exact ht
   | 2,_,hne => exact absurd rfl hne
   | _ + 3,hk,_ => simp at hk;omega)
  (fun k _ => by
   match k with
   | 0 => exact Nat.zero_le _
   | 1 => show t.length ≤ _; omega
   | _ + 2 => show (t ++ u).length ≤ _; rw [List.length_append]; omega)
  (fun k hk => by
   rw [hL] at hk ⊢
   match k,hk with
   | 0,_ => exact ⟨fun e => absurd e (bA_ne na),fun _ => ⟨bA t,by simp [bA_data],h1⟩⟩
   | 1,_ => exact ⟨fun e => absurd e (bA_ne nb),fun _ => ⟨bA u,by simp [bA_data],h2⟩⟩
   | 2,_ => exact ⟨fun _ => ⟨rfl,rfl⟩,fun e => absurd rfl e⟩
   | _ + 3,hk => simp at hk;omega)
 rw [hL] at h
 exact h
theorem script2_c {a b t u:List UInt8}{p q:Prg}(ha:(10:UInt8) ∉ a) (hb:(10:UInt8) ∉ b) (na:a ≠ []) (nb:b ≠ []) (h1:DoC ⟨[],[]⟩ a t p) (h2:DoC p b u q) (hl:a.length + b.length ≤ 10000) (ht:t.length + u.length ≤ 40000) :
  PC Tryz.prog 13 [sv (bA (a ++ 10 :: (b ++ [10])))] (fun r => r = sv (bA (t ++ u))) := script2L_c ha hb na nb h1 h2 hl (by omega) (by omega)
theorem script3_c {a b c t u v:List UInt8}{p q o:Prg}(ha:(10:UInt8) ∉ a) (hb:(10:UInt8) ∉ b) (hc:(10:UInt8) ∉ c) (na:a ≠ []) (nb:b ≠ []) (nc:c ≠ []) (h1:DoC ⟨[],[]⟩ a t p) (h2:DoC p b u q) (h3:DoC q c v o) (hl:a.length + b.length + c.length ≤ 10000) (ht:t.length + u.length + v.length ≤ 40000) :
  PC Tryz.prog 13 [sv (bA (a ++ 10 :: (b ++ 10 :: (c ++ [10]))))] (fun r => r = sv (bA ((t ++ u) ++ v))) := by
 have hL := lns3 ha hb hc
 have h := runScript_c (bA (a ++ 10 :: (b ++ 10 :: (c ++ [10])))) (by rw [bA_size]; simp only [List.length_append, List.length_cons, List.length_nil]; omega) (fun k => match k with | 0 => ⟨[], []⟩ | 1 => p | 2 => q | _ => o) (fun k => match k with | 0 => [] | 1 => t | 2 => t ++ u | _ => (t ++ u) ++ v) rfl rfl (by rw [hL]; simp)
  (fun k hk _ => by
   rw [hL] at hk
   match k,hk with
   | 0,_ => exact Nat.zero_le _
   | 1,_ => show t.length ≤ _; omega
   | 2,_ => show (t ++ u).length ≤ _; rw [List.length_append]; omega
   | _ + 3,_ => show ((t ++ u) ++ v).length ≤ _; rw [List.length_append,List.length_append]; omega)
  (fun k _ => by
   match k with
   | 0 => exact Nat.zero_le _
   | 1 => show t.length ≤ _; omega
   | 2 => show (t ++ u).length ≤ _; rw [List.length_append]; omega
   | _ + 3 => show ((t ++ u) ++ v).length ≤ _; rw [List.length_append,List.length_append]; omega)
  (fun k hk => by
   rw [hL] at hk ⊢
   match k,hk with
   | 0,_ => exact ⟨fun e => absurd e (bA_ne na),fun _ => ⟨bA t,by simp [bA_data],h1⟩⟩
   | 1,_ => exact ⟨fun e => absurd e (bA_ne nb),fun _ => ⟨bA u,by simp [bA_data],h2⟩⟩
   | 2,_ => exact ⟨fun e => absurd e (bA_ne nc),fun _ => ⟨bA v,by simp [bA_data],h3⟩⟩
   | 3,_ => exact ⟨fun _ => ⟨rfl,rfl⟩,fun e => absurd rfl e⟩
   | _ + 4,hk => simp at hk;omega)
 rw [hL] at h
 exact h
end Go.Proofs.YtjnhlgpbojggnaaGreatDoor
namespace Go.Proofs.YtjnhlgpbojggnaaGreatDoor
open Go.AL Go.RowKit
variable {N : Nat} {Q : Exit → AS → Prop} {all : Array Oper} {rest : List Oper} {tsl : List (Nat × AV)} {hsl : List (Nat × Option (List AV))} {nidl : Nat} {z0 : Lo} {md : Md} {d : Nat} {ty : TypeId} {pos : String} {af : Array Edge} {tys : Array TypeId}
theorem sb_lt {l m:List UInt8}{b:Bool}(h:(l == m) = b):sbin .eql (bA l) (bA m) = some (.bool b) := by simp only [sbin,bA_toList,h]
theorem line_c (l:List UInt8) (h:l.length ≤ 1000000):PC Tryz.prog 42 [sv (bA l)] (fun r => r = sv (bA (l ++ [10]))):=by
 have z := bA_size l
 refine pc_start Tryz.func42 Tryz.ntmps42 ?_
 repeat' (first|(apply id_rw;(apply rx_sbin;rfl;rfl;(exact sadd_ok (by (simp only [ByteArray.size_append,bsz_lit,List.length_cons,List.length_nil,letF_size,decF_size,bytF_size] <;> omega)));rfl))|refine stpb ?_|fail)
 exact rq_ret rfl ⟨congrArg sv (bA_app l [10]),rfl⟩
theorem rx_xch {p q:Prg}{x0 x1 x2:Operand}{i0:Nat}(ha0:ev (lk tsl) x0 = some (.optr i0 0)) (ha1:ev (lk tsl) x1 = some (aPrg q)) (ha2:ev (lk tsl) x2 = some (bv true)) (hH0:lkH hsl i0 = some ([sl cI p.types,sl cStmt p.body])) (hmc:MC Tryz.prog 84 [.optr 0 0,aPrg q,bv true] [(0,some ([sl cI p.types,sl cStmt p.body]))] 1 (fun _:Unit => True) (fun _ => sv (bA [111,107,10])) (fun _ => [(0,some ([sl cI q.types,sl cStmt q.body]))])) (hM:Nat.ble (nidl + 0) big = true) (hN:Nat.blt d N = true){md':Md}[hmd:MdA md (rOs [x0,x1,x2] ++ [.inr i0]) (List.map Sum.inr (List.map Prod.fst ([(i0,some ([sl cI q.types,sl cStmt q.body]))]:List (Nat × Option (List AV)))) ++ [.inl d]) md'] (kk:RW Tryz.prog N all Q md' rest ⟨(d,sv (bA [111,107,10])) :: tsl,wrH hsl [(i0,some ([sl cI q.types,sl cStmt q.body]))],nidl + 0,z0⟩):RW Tryz.prog N all Q md (⟨some d,.call ⟨.value (.func 84),#[x0,x1,x2],tys⟩,ty,pos,af,none⟩ :: rest) ⟨tsl,hsl,nidl,z0⟩:=by
 exact rx_mcallA (l := [x0,x1,x2]) [i0] 1 [(i0,some ([sl cI q.types,sl cStmt q.body]))] hmc (avs := [.optr i0 0,aPrg q,bv true]) (by simp only [evL,ha0,ha1,ha2]) rfl hM hN (md' := md') (hmd := hmd) kk
theorem xch_c (p q:Prg):MC Tryz.prog 84 [.optr 0 0,aPrg q,bv true] [(0,some ([sl cI p.types,sl cStmt p.body]))] 1 (fun _:Unit => True) (fun _ => sv (bA [111,107,10])) (fun _ => [(0,some ([sl cI q.types,sl cStmt q.body]))]):=by
 have hl := line_c [111,107] (by decide)
 refine mc_start Tryz.func84 Tryz.ntmps84 ?_
 repeat' (first|(apply id_rw;first|(apply rx_store;rfl;rfl;rfl;rfl;rfl;(case hl => (simp;done));exact (rfl:_=[_,_]))|(apply rx_callE (k := 42);rfl;exact hl;(rfl);rfl))|refine stpb ?_|fail)
 (refine rq_ret rfl ?_; refine mc_ret () trivial ?_ ⟨sE ?_,trivial⟩)
 ·rfl
 ·rfl
theorem rx_alone {s t:List UInt8}{p q:Prg}{x0 x1:Operand}{i0:Nat}(ha0:ev (lk tsl) x0 = some (.optr i0 0)) (ha1:ev (lk tsl) x1 = some (sv (bA s))) (hH0:lkH hsl i0 = some ([sl cI p.types,sl cStmt p.body])) (hmc:MC Tryz.prog 82 [.optr 0 0,sv (bA s)] [(0,some ([sl cI p.types,sl cStmt p.body]))] 1 (fun _:Unit => True) (fun _ => sv (bA t)) (fun _ => [(0,some ([sl cI q.types,sl cStmt q.body]))])) (hM:Nat.ble (nidl + 0) big = true) (hN:Nat.blt d N = true){md':Md}[hmd:MdA md (rOs [x0,x1] ++ [.inr i0]) (List.map Sum.inr (List.map Prod.fst ([(i0,some ([sl cI q.types,sl cStmt q.body]))]:List (Nat × Option (List AV)))) ++ [.inl d]) md'] (kk:RW Tryz.prog N all Q md' rest ⟨(d,sv (bA t)) :: tsl,wrH hsl [(i0,some ([sl cI q.types,sl cStmt q.body]))],nidl + 0,z0⟩):RW Tryz.prog N all Q md (⟨some d,.call ⟨.value (.func 82),#[x0,x1],tys⟩,ty,pos,af,none⟩ :: rest) ⟨tsl,hsl,nidl,z0⟩:=by
 exact rx_mcallA (l := [x0,x1]) [i0] 1 [(i0,some ([sl cI q.types,sl cStmt q.body]))] hmc (avs := [.optr i0 0,sv (bA s)]) (by simp only [evL,ha0,ha1]) rfl hM hN (md' := md') (hmd := hmd) kk
theorem doAlone_c (s t:List UInt8) (p q:Prg) (h32:(32:UInt8) ∉ s) (h:MC Tryz.prog 82 [.optr 0 0,sv (bA s)] [(0,some [sl cI p.types,sl cStmt p.body])] 1 (fun _:Unit => True) (fun _ => sv (bA (t))) (fun _ => [(0,some [sl cI q.types,sl cStmt q.body])])):DoC p s t q:=by
 have hc := cutM_c s 32 h32
 unfold DoC
 refine mc_start Tryz.func47 Tryz.ntmps47 ?_
 repeat' (first|(apply id_rw;first|(apply rx_callE (k := 81);rfl;exact hc;(rfl);rfl)|(apply rx_alone (s := s) (t := t) (p := p) (q := q);rfl;rfl;rfl;exact h;rfl;rfl))|refine stpb ?_|fail)
 (refine rq_ret rfl ?_; refine mc_ret () trivial ?_ ⟨sE ?_,trivial⟩)
 ·rfl
 ·rfl
theorem doProg_c (p0 p:Prg) (hv:validF p = true):DoC p0 ([112,114,111,103,114,97,109] ++ 32 :: tP p) [111,107,10] p:=by
 have hc := cutH_c [112,114,111,103,114,97,109] (tP p) 32 (by decide) (by have := tP_size hv;simp only [List.length_cons,List.length_nil]; omega)
 have hp := parse_c p hv
 have hx := xch_c p0 p
 unfold DoC
 refine mc_start Tryz.func47 Tryz.ntmps47 ?_
 repeat' (first|(apply id_rw;first|(apply rx_store;rfl;rfl;rfl;rfl;rfl;(case hl => (simp;done));exact (rfl:_=[_,_]))|(apply rx_sbin;rfl;rfl;(exact sb_lt (b := true) (by decide));rfl)|(apply rx_callE (k := 81);rfl;exact hc;(rfl);rfl)|(apply rx_callE (k := 83);rfl;exact hp;(rfl);rfl)|(apply rx_xch (p := p0) (q := p);rfl;rfl;rfl;rfl;exact hx;rfl;rfl))|refine stpb ?_|fail)
 (refine rq_ret rfl ?_; refine mc_ret () trivial ?_ ⟨sE ?_,trivial⟩)
 ·rfl
 ·rfl
instance botS : BoT Tryz.prog 4:=⟨by kernel_rfl⟩
theorem sb_same {a b:ByteArray}(h:a = b):sbin .eql a b = some (.bool true) := by subst h;simp [sbin]
theorem fmtP_c (p:Prg) (hv:validF p = true) (hl:p.types.length ≤ 1048576) (hs:cntL p.body ≤ 1048576):PC Tryz.prog 14 [aPrg p] (fun r => r = sv (bA (tP p))):=by
 have h1 := validI_c p hl (by omega)
 rw [hv] at h1
 have h2 := progText_c p hv
 refine pc_start Tryz.func14 Tryz.ntmps14 ?_
 repeat' (first|(apply id_rw;first|(apply rx_callE (k := 17);rfl;exact h1;exact Pur.pf;rfl)|(apply rx_callE (k := 48);rfl;exact h2;exact Pur.pf;rfl))|refine stpb ?_|fail)
 exact rq_ret rfl ⟨rfl,rfl⟩
theorem itoaB_c (n:Int) (h0:0 ≤ n) (h1:n ≤ 99):PC Tryz.prog 133 [iv n] (fun r => r = sv (bA (dB n))) := itoa_c n h0 h1
theorem numbers_c (w:List UInt8) (l:List Int) (hw:w.length ≤ 100000) (hl:l.length ≤ 10000) (hn:∀ k,k < l.length → 0 ≤ l[k]! ∧ l[k]! ≤ 99):PC Tryz.prog 126 [sv (bA w),sl cI l] (fun r => r = sv (bA (w ++ (numB l ++ [10])))):=by
 have e0 : bA w = bA (w ++ numB (l.take 0)) := by simp [numB]
 rw [e0]
 refine pc_start Tryz.func126 Tryz.ntmps126 ?_
 repeat' (first|refine stpb ?_|fail)
 refine aw_loopA (σ := Nat) [7,8] [] (fun k => [(9,iv (k : Int)),(0,sv (bA (w ++ numB (l.take k))))]) (fun k => []) (fun k => k ≤ l.length) (fun k => l.length - k) (0) (Nat.zero_le _) ?_
 intro k hk
 have z1 := bA_size (w ++ numB (l.take k))
 have z2 := numB_len (l.take k)
 rw [List.length_append] at z1
 rw [List.length_take] at z2
 by_cases hkn : k < l.length
 ·have hb := hn k hkn
  have hi := itoaB_c l[k]! hb.1 hb.2
  have z3 := dB_len l[k]!
  have z4 := bA_size (dB l[k]!)
  have e : bA (w ++ numB (l.take k)) ++ (⟨#[32]⟩ ++ bA (dB l[k]!)) = bA (w ++ numB (l.take (k + 1))) := by
   show bA (w ++ numB (l.take k)) ++ (bA [32] ++ bA (dB l[k]!)) = _
   rw [take_succB l k hkn,numB_app,numB_one,bA_app,bA_app,List.append_assoc]; rfl
  repeat' (first|(apply id_rw;first|(apply rx_callE (k := 133);rfl;exact hi;(rfl);rfl)|(apply rx_sbin;rfl;rfl;(exact sadd_ok (by (simp only [ByteArray.size_append,bsz_lit,List.length_cons,List.length_nil,letF_size,decF_size,bytF_size] <;> omega)));rfl))|refine stpb ?_|(refine stp2 ?_ ?_ <;> intro hc hq <;> try (exfalso;omega))|fail)
  rw [e]
  (refine ex3 (k + 1) (Le.renA []) ?_ ?_)
  ·exact hkn
  ·omega
 ·have hke : k = l.length := by omega
  subst hke
  rw [List.take_length]
  have hli := line_c (w ++ numB l) (by have := numB_len l;rw [List.length_append]; omega)
  repeat' (first|(apply id_rw;(apply rx_callE (k := 42);rfl;exact hli;(rfl);rfl))|refine stpb ?_|(refine stp2 ?_ ?_ <;> intro hc hq <;> try (exfalso;omega))|fail)
  refine rq_ret rfl ⟨?_,rfl⟩
  rw [← List.append_assoc]; rfl
theorem issB_c (p:Prg) (f:Flows p.types (ptsF p)) (hv:validF p = true) (k:Nat) (hk:k < f.iss.length):PC Tryz.prog 184 [aG p.types p.body (ptsF p),aIss f.iss[k]!] (fun r => r = sv (bA (isB (ptsF p) f.iss[k]!))):=by
 have w := WG.of_valid hv
 have hok := (iss_ok w f).1 k hk
 have hpl := w.pl
 have htl := w.tl
 generalize f.iss[k]! = x at *
 obtain ⟨pt,kd,wi⟩ := x
 obtain ⟨a,rfl⟩ := Int.eq_ofNat_of_zero_le hok.p0
 have ha : a < (ptsF p).length := by have := hok.p1;dsimp only at this;omega
 have hpa := pts_bd hv ha
 rcases hok.k with ⟨h1,h2⟩ | ⟨h1,h2⟩
 ·dsimp only at h1 h2
  subst h1
  exact issueText1_c p.types p.body (ptsF p) a wi ha (by omega) hpa (by omega)
 ·dsimp only at h1 h2
  obtain ⟨l,rfl⟩ := Int.eq_ofNat_of_zero_le h2.1
  exact issueText2_c p.types p.body (ptsF p) a l kd (by omega) ha (by omega) (by omega) hpa (pts_bd hv (by omega))
theorem rx_xiss {p:Prg}{L:List Iss}{x0 x1:Operand}{i0:Nat}(ha0:ev (lk tsl) x0 = some (.optr i0 0)) (ha1:ev (lk tsl) x1 = some (sl cIss L)) (hH0:lkH hsl i0 = some ([sl cI p.types,sl cStmt p.body])) (hmc:MC Tryz.prog 122 [.optr 0 0,sl cIss L] [(0,some ([sl cI p.types,sl cStmt p.body]))] 1 (fun _:Unit => True) (fun _ => sv (bA (isT (ptsF p) L L.length ++ [101,110,100,10]))) (fun _ => [(0,some ([sl cI p.types,sl cStmt p.body]))])) (hM:Nat.ble (nidl + 0) big = true) (hN:Nat.blt d N = true){md':Md}[hmd:MdA md (rOs [x0,x1] ++ [.inr i0]) (List.map Sum.inr (List.map Prod.fst ([(i0,some ([sl cI p.types,sl cStmt p.body]))]:List (Nat × Option (List AV)))) ++ [.inl d]) md'] (kk:RW Tryz.prog N all Q md' rest ⟨(d,sv (bA (isT (ptsF p) L L.length ++ [101,110,100,10]))) :: tsl,wrH hsl [(i0,some ([sl cI p.types,sl cStmt p.body]))],nidl + 0,z0⟩):RW Tryz.prog N all Q md (⟨some d,.call ⟨.value (.func 122),#[x0,x1],tys⟩,ty,pos,af,none⟩ :: rest) ⟨tsl,hsl,nidl,z0⟩:=by
 exact rx_mcallA (l := [x0,x1]) [i0] 1 [(i0,some ([sl cI p.types,sl cStmt p.body]))] hmc (avs := [.optr i0 0,sl cIss L]) (by simp only [evL,ha0,ha1]) rfl hM hN (md' := md') (hmd := hmd) kk
theorem xiss_c (p:Prg) (L:List Iss) (hL:∃ f:Flows p.types (ptsF p),L = f.iss) (hv:validF p = true):MC Tryz.prog 122 [.optr 0 0,sl cIss L] [(0,some ([sl cI p.types,sl cStmt p.body]))] 1 (fun _:Unit => True) (fun _ => sv (bA (isT (ptsF p) L L.length ++ [101,110,100,10]))) (fun _ => [(0,some ([sl cI p.types,sl cStmt p.body]))]):=by
 obtain ⟨f,hf⟩ := hL
 have hv2 := hv
 simp only [validF,Bool.and_eq_true,decide_eq_true_eq] at hv2
 obtain ⟨⟨t1,t2⟩,t3⟩ := hv2
 have htl := typesOk_len t1
 have w := WG.of_valid hv
 have hll := iss_len' w f
 rw [← hf] at hll
 have hg := graphOf_c p (by omega) (by omega)
 rw [if_pos hv] at hg
 have hit : ∀ k, k < L.length → PC Tryz.prog 184 [aG p.types p.body (ptsF p), aIss L[k]!] (fun r => r = sv (bA (isB (ptsF p) L[k]!))) := by
  rw [hf]; exact fun k hk => issB_c p f hv k hk
 have hend := line_c [101,110,100] (by decide)
 have z9 : (bA ([101,110,100] ++ [10])).size = 4 := rfl
 clear hf f
 generalize ptsF p = pts at *
 refine mc_start Tryz.func122 Tryz.ntmps122 ?_
 repeat' (first|(apply id_rw;(apply rx_callE (k := 104);rfl;exact hg;exact Pur.pf;rfl))|refine stpb ?_|fail)
 refine aw_loopA (σ := Nat) [5,18,19] [0] (fun k => [(20,iv (k : Int)),(7,sv (bA (isT pts L k)))]) (fun k => []) (fun k => k ≤ L.length) (fun k => L.length - k) (0) (Nat.zero_le _) ?_
 intro k hk
 have z1 := bA_size (isT pts L k)
 have z2 := (isT_len pts L k).2
 by_cases hkn : k < L.length
 ·have hi := hit k hkn
  have z3 := isB_len pts L[k]!
  have hl := line_c (isB pts L[k]!) (by omega)
  have z4 := bA_size (isB pts L[k]! ++ [10])
  rw [List.length_append,List.length_singleton] at z4
  have es : bA (isT pts L k) ++ bA (isB pts L[k]! ++ [10]) = bA (isT pts L (k + 1)) := by rw [bA_app,isT_succ]
  repeat' (first|(apply id_rw;first|(apply rx_callE (k := 184);rfl;exact hi;exact Pur.pf;rfl)|(apply rx_callE (k := 42);rfl;exact hl;(rfl);rfl)|(apply rx_sbin;rfl;rfl;(exact sadd_ok (by (omega)));rfl))|refine stpb ?_|(refine stp2 ?_ ?_ <;> intro hc hq <;> try (exfalso;omega))|fail)
  rw [es]
  (refine ex3 (k + 1) (Le.renA []) ?_ ?_)
  ·exact hkn
  ·omega
 ·have hke : k = L.length := by omega
  subst hke
  repeat' (first|(apply id_rw;first|(apply rx_callE (k := 42);rfl;exact hend;(rfl);rfl)|(apply rx_sbin;rfl;rfl;(exact sadd_ok (by (omega)));rfl))|refine stpb ?_|(refine stp2 ?_ ?_ <;> intro hc hq <;> try (exfalso;omega))|fail)
  (refine rq_ret rfl ?_; refine mc_ret () trivial ?_ ⟨sE ?_,trivial⟩)
  ·exact congrArg sv (bA_app _ _)
  ·rfl
theorem aloneChk_c (p:Prg) (L:List Iss) (hF:FI p L) (hv:validF p = true):MC Tryz.prog 82 [.optr 0 0,sv (bA [99,104,101,99,107])] [(0,some [sl cI p.types,sl cStmt p.body])] 1 (fun _:Unit => True) (fun _ => sv (bA (isT (ptsF p) L L.length ++ [101,110,100,10]))) (fun _ => [(0,some [sl cI p.types,sl cStmt p.body])]):=by
 have hc := hF.1
 have hi := xiss_c p L hF.2.1 hv
 refine mc_start Tryz.func82 Tryz.ntmps82 ?_
 repeat' (first|(apply id_rw;first|(apply rx_sbin;rfl;rfl;(first|exact sb_lt (b := false) (by decide)|exact sb_lt (b := true) (by decide));rfl)|(apply rx_callE (k := 67);rfl;exact hc;exact Pur.pf;rfl)|(apply rx_xiss (p := p) (L := L);rfl;rfl;rfl;exact hi;rfl;rfl))|refine stpb ?_|fail)
 (refine rq_ret rfl ?_; refine mc_ret () trivial ?_ ⟨sE ?_,trivial⟩)
 ·rfl
 ·rfl
def rmT (M : List Int) : List UInt8 := [114,101,109,111,118,101,100] ++ (numB M ++ [10])
theorem aloneRep_c (p Q:Prg) (M:List Int) (hv:validF p = true) (hR:RepS FI p (lfN p.body.length []) [] Q M):MC Tryz.prog 82 [.optr 0 0,sv (bA [114,101,112,97,105,114])] [(0,some [sl cI p.types,sl cStmt p.body])] 1 (fun _:Unit => True) (fun _ => sv (bA (rmT M))) (fun _ => [(0,some [sl cI Q.types,sl cStmt Q.body])]):=by
 have hv2 := hv
 simp only [validF,Bool.and_eq_true,decide_eq_true_eq] at hv2
 obtain ⟨⟨t1,t2⟩,t3⟩ := hv2
 have htl := typesOk_len t1
 have hlen := cntL_len p.body
 have hrp := repairI_c p hv (by omega) (by omega) Q M hR
 have hfin := (RepS.fin hR hv).2.2.2.2
 rw [List.length_nil] at hfin
 have hmb := RepS.mem (R := fun z => 0 ≤ z ∧ z < p.body.length) hR (lfN_len0 _).symm (fun z hz => lfN_in hz) (fun z hz => by cases hz)
 have hnu := numbers_c [114,101,109,111,118,101,100] M (by decide) (by omega) (fun k hk => by have := hmb _ (getB_mem M k hk);omega)
 refine mc_start Tryz.func82 Tryz.ntmps82 ?_
 repeat' (first|(apply id_rw;first|(apply rx_store;rfl;rfl;rfl;rfl;rfl;(case hl => (simp;done));exact (rfl:_=[_,_]))|(apply rx_sbin;rfl;rfl;(first|exact sb_lt (b := false) (by decide)|exact sb_lt (b := true) (by decide));rfl)|(apply rx_callE (k := 31);rfl;exact hrp;exact Pur.pf;rfl)|(apply rx_callE (k := 126);rfl;exact hnu;exact Pur.pf;rfl))|refine stpb ?_|fail)
 (refine rq_ret rfl ?_; refine mc_ret () trivial ?_ ⟨sE ?_,trivial⟩)
 ·rfl
 ·rfl
theorem scChk_c (p:Prg) (L:List Iss) (hF:FI p L) (hv:validF p = true):PC Tryz.prog 13 [sv (((⟨#[112,114,111,103,114,97,109,32]⟩ ++ bA (tP p)) ++ ⟨#[10]⟩) ++ ⟨#[99,104,101,99,107,10]⟩)] (fun r => r = sv (bA ([111,107,10] ++ (isT (ptsF p) L L.length ++ [101,110,100,10])))):=by
 have hz := tP_size hv
 obtain ⟨f,hf⟩ := hF.2.1
 have hll := iss_len' (WG.of_valid hv) f
 rw [← hf] at hll
 have hil := (isT_len (ptsF p) L L.length).2
 have h1 := doProg_c ⟨[],[]⟩ p hv
 have h2 := doAlone_c [99,104,101,99,107] (isT (ptsF p) L L.length ++ [101,110,100,10]) p p (by decide) (aloneChk_c p L hF hv)
 have h := script2L_c (a := [112,114,111,103,114,97,109] ++ 32 :: tP p) (b := [99,104,101,99,107]) (by simp [tP_no10 hv]) (by decide) (by simp) (by simp) h1 h2 (by simp only [List.length_append,List.length_cons,List.length_nil]; omega) (by decide) (by simp only [List.length_append,List.length_cons,List.length_nil]; omega)
 have e : (((⟨#[112, 114, 111, 103, 114, 97, 109, 32]⟩ : ByteArray) ++ bA (tP p)) ++ ⟨#[10]⟩) ++ ⟨#[99, 104, 101, 99, 107, 10]⟩ = bA (([112, 114, 111, 103, 114, 97, 109] ++ 32 :: tP p) ++ 10 :: ([99, 104, 101, 99, 107] ++ [10])) := by
  show ((bA [112,114,111,103,114,97,109,32] ++ bA (tP p)) ++ bA [10]) ++ bA [99,104,101,99,107,10] = _
  rw [bA_app,bA_app,bA_app]; simp
 rw [e]; exact h
theorem rmT_len {M:List Int}(h:M.length ≤ 1000):(rmT M).length ≤ 4000:=by
 have := numB_len M
 unfold rmT;simp only [List.length_append,List.length_cons,List.length_nil]; omega
theorem scRep_c (p Q:Prg) (M:List Int) (hv:validF p = true) (hR:RepS FI p (lfN p.body.length []) [] Q M):PC Tryz.prog 13 [sv (((⟨#[112,114,111,103,114,97,109,32]⟩ ++ bA (tP p)) ++ ⟨#[10]⟩) ++ ⟨#[114,101,112,97,105,114,10]⟩)] (fun r => r = sv (bA ([111,107,10] ++ rmT M))):=by
 have hz := tP_size hv
 have hv2 := hv
 simp only [validF,Bool.and_eq_true,decide_eq_true_eq] at hv2
 have hlen := cntL_len p.body
 have hfin := (RepS.fin hR hv).2.2.2.2
 rw [List.length_nil] at hfin
 have hrm := rmT_len (M := M) (by omega)
 have h1 := doProg_c ⟨[],[]⟩ p hv
 have h2 := doAlone_c [114,101,112,97,105,114] (rmT M) p Q (by decide) (aloneRep_c p Q M hv hR)
 have h := script2_c (a := [112,114,111,103,114,97,109] ++ 32 :: tP p) (b := [114,101,112,97,105,114]) (by simp [tP_no10 hv]) (by decide) (by simp) (by simp) h1 h2 (by simp only [List.length_append,List.length_cons,List.length_nil]; omega) (by simp only [List.length_cons,List.length_nil]; omega)
 have e : (((⟨#[112, 114, 111, 103, 114, 97, 109, 32]⟩ : ByteArray) ++ bA (tP p)) ++ ⟨#[10]⟩) ++ ⟨#[114, 101, 112, 97, 105, 114, 10]⟩ = bA (([112, 114, 111, 103, 114, 97, 109] ++ 32 :: tP p) ++ 10 :: ([114, 101, 112, 97, 105, 114] ++ [10])) := by
  show ((bA [112,114,111,103,114,97,109,32] ++ bA (tP p)) ++ bA [10]) ++ bA [114,101,112,97,105,114,10] = _
  rw [bA_app,bA_app,bA_app]; simp
 rw [e]; exact h
theorem scFix_c (p Q:Prg) (M:List Int) (hv:validF p = true) (hR:RepS FI p (lfN p.body.length []) [] Q M):PC Tryz.prog 13 [sv (((⟨#[112,114,111,103,114,97,109,32]⟩ ++ bA (tP p)) ++ ⟨#[10]⟩) ++ ⟨#[114,101,112,97,105,114,10,99,104,101,99,107,10]⟩)] (fun r => r = sv (bA (([111,107,10] ++ rmT M) ++ [101,110,100,10]))):=by
 have hz := tP_size hv
 have hv2 := hv
 simp only [validF,Bool.and_eq_true,decide_eq_true_eq] at hv2
 have hlen := cntL_len p.body
 have hfin := RepS.fin hR hv
 have hfl := hfin.2.2.2.2
 rw [List.length_nil] at hfl
 have hrm := rmT_len (M := M) (by omega)
 have h1 := doProg_c ⟨[],[]⟩ p hv
 have h2 := doAlone_c [114,101,112,97,105,114] (rmT M) p Q (by decide) (aloneRep_c p Q M hv hR)
 have h3 : DoC Q [99,104,101,99,107] [101,110,100,10] Q := doAlone_c [99,104,101,99,107] (isT (ptsF Q) [] 0 ++ [101,110,100,10]) Q Q (by decide) (aloneChk_c Q [] hfin.1 hfin.2.1)
 have h := script3_c (a := [112,114,111,103,114,97,109] ++ 32 :: tP p) (b := [114,101,112,97,105,114]) (c := [99,104,101,99,107]) (by simp [tP_no10 hv]) (by decide) (by decide) (by simp) (by simp) (by simp) h1 h2 h3 (by simp only [List.length_append,List.length_cons,List.length_nil]; omega) (by simp only [List.length_cons,List.length_nil]; omega)
 have e : (((⟨#[112, 114, 111, 103, 114, 97, 109, 32]⟩ : ByteArray) ++ bA (tP p)) ++ ⟨#[10]⟩) ++ ⟨#[114, 101, 112, 97, 105, 114, 10, 99, 104, 101, 99, 107, 10]⟩ = bA (([112, 114, 111, 103, 114, 97, 109] ++ 32 :: tP p) ++ 10 :: ([114, 101, 112, 97, 105, 114] ++ 10 :: ([99, 104, 101, 99, 107] ++ [10]))) := by
  show ((bA [112,114,111,103,114,97,109,32] ++ bA (tP p)) ++ bA [10]) ++ bA [114,101,112,97,105,114,10,99,104,101,99,107,10] = _
  rw [bA_app,bA_app,bA_app]; simp
 rw [e]; exact h
theorem FnScriptCheck_c (bs:List UInt8):PC Tryz.prog 8 [sl cU bs] (fun r => r = bv true):=by
 rcases Nat.lt_or_ge 1048576 bs.length with hb|hb
 ·refine pc_start Tryz.func8 Tryz.ntmps8 ?_
  repeat' (first|refine stpb ?_|(refine stp2 ?_ ?_ <;> intro hc hq <;> try (exfalso;omega))|fail)
  exact rq_ret rfl ⟨rfl,rfl⟩
 refine pc_start Tryz.func8 Tryz.ntmps8 ?_
 repeat' (first|(apply id_rw;first|(apply rx_call (k := 28);rfl;exact drawCheck_c bs hb;exact Pur.pf;rfl;(rintro _ ⟨p,rfl,hq1,hq2⟩ _))|(with_reducible apply rw_stop (d := 16)))|refine stpb ?_|(refine stp2 ?_ ?_ <;> intro hc hq <;> try (exfalso;omega))|fail)
 refine rw_go ?_
 have h0 := validI_c p (by omega) (by omega)
 cases hv : validF p with
 | false =>
  rw [hv] at h0
  have hC := CheckI0_c p hv (by omega) (by omega)
  have hCS := CheckS0_c p hv (by omega) (by omega)
  have h1 := AcceptsI2_c p [] (by omega) (by omega) hC
  have h2 := AcceptsS2_c p [] (by omega) (by omega) hCS
  rw [hv] at h1 h2
  repeat' (first|(apply id_rw;first|(apply rx_callE (k := 29);rfl;exact h1;exact Pur.pf;rfl)|(apply rx_callE (k := 30);rfl;exact h2;exact Pur.pf;rfl)|(apply rx_callE (k := 17);rfl;exact h0;exact Pur.pf;rfl))|refine stpb ?_|fail)
  all_goals exact rq_ret rfl ⟨rfl,rfl⟩
 | true =>
  rw [hv] at h0
  obtain ⟨Q,M,hR⟩ := RepS.ex (FI := FI) (fun q hvq => FI.ex q (by simp only [validF,Bool.and_eq_true,decide_eq_true_eq] at hvq;omega) (by simp only [validF,Bool.and_eq_true,decide_eq_true_eq] at hvq;have := typesOk_len hvq.1.1;omega) hvq) p.body.length p (lfN p.body.length []) [] (Nat.le_refl _) hv
  obtain ⟨L,hF,hME⟩ := RepS.empty hR hv
  obtain ⟨f,hf⟩ := hF.2.1
  have hCS := CheckS_c p f (by omega) (by omega)
  have ec : chkF p f = L := by rw [hf]; exact if_pos hv
  rw [ec] at hCS
  have h1 := AcceptsI2_c p L (by omega) (by omega) hF.1
  have h2 := AcceptsS2_c p L (by omega) (by omega) hCS
  rw [hv,Bool.true_and] at h1 h2
  have h3 := fmtP_c p hv (by omega) (by omega)
  have h4 := scChk_c p L hF hv
  have h5 := scFix_c p Q M hv hR
  have h6 := scRep_c p Q M hv hR
  have h7 := repairI_c p hv (by omega) (by omega) Q M hR
  have hz := tP_size hv
  have z1 := bA_size (tP p)
  have hO := isT_ok (ptsF p) L
  have hlen := cntL_len p.body
  have hv2 := hv
  simp only [validF,Bool.and_eq_true,decide_eq_true_eq] at hv2
  have hfin := (RepS.fin hR hv).2.2.2.2
  rw [List.length_nil] at hfin
  have hrm := rmT_len (M := M) (by omega)
  have z2 := bA_size ([111,107,10] ++ rmT M)
  rw [List.length_append,List.length_cons,List.length_cons,List.length_cons,List.length_nil] at z2
  have e7 : bA (([111,107,10] ++ rmT M) ++ [101,110,100,10]) = bA ([111,107,10] ++ rmT M) ++ ⟨#[101,110,100,10]⟩ := (bA_app _ _).symm
  have hMl : M.length = 0 ↔ L = [] := by rw [List.length_eq_zero_iff]; exact hME
  cases hLe : L.isEmpty with
  | true =>
   rw [hLe] at h1 h2 hO
   have hM0 : M.length = 0 := hMl.2 (List.isEmpty_iff.1 hLe)
   repeat' (first|(apply id_rw;first|(apply rx_sbin (d := 51);rfl;rfl;exact sb_lt hO;rfl)|(apply rx_sbin (d := 57);rfl;rfl;exact sb_same e7;rfl)|(apply rx_callE (k := 29);rfl;exact h1;exact Pur.pf;rfl)|(apply rx_callE (k := 30);rfl;exact h2;exact Pur.pf;rfl)|(apply rx_callE (k := 17);rfl;exact h0;exact Pur.pf;rfl)|(apply rx_callE (k := 14);rfl;exact h3;exact Pur.pf;rfl)|(apply rx_callE (k := 13);rfl;exact h4;(rfl);rfl)|(apply rx_callE (k := 13);rfl;exact h5;(rfl);rfl)|(apply rx_callE (k := 13);rfl;exact h6;(rfl);rfl)|(apply rx_callE (k := 31);rfl;exact h7;exact Pur.pf;rfl)|(apply rx_sbin;rfl;rfl;(exact sadd_ok (by (simp only [ByteArray.size_append,bsz_lit,List.length_cons,List.length_nil,letF_size,decF_size,bytF_size] <;> omega)));rfl))|refine stpb ?_|fail)
   refine rq_ret rfl ⟨?_,rfl⟩
   show bv (decide (true = decide ((M.length : Int) = 0))) = bv true
   rw [decide_eq_true (show (M.length : Int) = 0 by omega)]; rfl
  | false =>
   rw [hLe] at h1 h2 hO
   have hM0 : ¬ M.length = 0 := fun h => by rw [hMl.1 h] at hLe;cases hLe
   repeat' (first|(apply id_rw;first|(apply rx_sbin (d := 51);rfl;rfl;exact sb_lt hO;rfl)|(apply rx_sbin (d := 57);rfl;rfl;exact sb_same e7;rfl)|(apply rx_callE (k := 29);rfl;exact h1;exact Pur.pf;rfl)|(apply rx_callE (k := 30);rfl;exact h2;exact Pur.pf;rfl)|(apply rx_callE (k := 17);rfl;exact h0;exact Pur.pf;rfl)|(apply rx_callE (k := 14);rfl;exact h3;exact Pur.pf;rfl)|(apply rx_callE (k := 13);rfl;exact h4;(rfl);rfl)|(apply rx_callE (k := 13);rfl;exact h5;(rfl);rfl)|(apply rx_callE (k := 13);rfl;exact h6;(rfl);rfl)|(apply rx_callE (k := 31);rfl;exact h7;exact Pur.pf;rfl)|(apply rx_sbin;rfl;rfl;(exact sadd_ok (by (simp only [ByteArray.size_append,bsz_lit,List.length_cons,List.length_nil,letF_size,decF_size,bytF_size] <;> omega)));rfl))|refine stpb ?_|fail)
   refine rq_ret rfl ⟨?_,rfl⟩
   show bv (decide (false = decide ((M.length : Int) = 0))) = bv true
   rw [decide_eq_false (show ¬ (M.length : Int) = 0 by omega)]; rfl
end Go.Proofs.YtjnhlgpbojggnaaGreatDoor
