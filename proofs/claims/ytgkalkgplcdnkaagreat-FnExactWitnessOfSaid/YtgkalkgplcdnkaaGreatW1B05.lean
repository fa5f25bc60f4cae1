/-
 A part of the proofs over this program: rules and contracts of its functions (the contracts).
-/
import Derived.Test.YtgkalkgplcdnkaaGreatW1B04
set_option linter.unusedVariables false
set_option linter.unusedSimpArgs false
set_option maxHeartbeats 8000000
set_option maxRecDepth 4000
attribute [local irreducible] Go.AL.RW Go.AL.AW Go.AL.Stop
namespace Go.Proofs.YtgkalkgplcdnkaaGreat
open Go.AL Go.RowKit
theorem uP (p:Prg) (x:Iss) (hl:p.types.length ≤ 1048576) (hs:aM p.body ≤ 1048576) (hln:Fq p.body) (q:((p.types.length + aM p.body:Nat):Int) ≤ 1048576):rT Tryz.prog 6 [cA p,fU x] (fun r E => r = bv true):=by
 have c0 := oZ p 1048576 (by decide) (by decide) (by omega) hln
 rw [lU q] at c0
 have h1 := xG p hl hs
 have h1t := xY p hl hs
 have h2 := xW p hl hs
 have hI := CT x
 obtain ⟨W,ok,h3t,h3,h4,hWl⟩ := Ks p x hl hs
 have h5 := yV W (by omega)
 have h6 := zN W.length 1 (by decide) (by omega)
 have m1 := qQ W 1 (by decide) (by omega)
 (refine b0 Tryz.func6 rfl (by simp [Tryz.ntmps6]) ?_; rw [Tryz.ntmps6])
 iterate 4
  refine aS (awt_lift ?_)
  repeat' (first|(apply aF;(apply aA (k := 7);rfl;exact c0;exact Pur.pf;rfl))|refine aC ?_|(refine aJ ?_ ?_ <;> intro hc hq <;> try (exfalso;omega))|fail)
  show dE _ _ _ _ _ _
 refine aS (awt_lift ?_)
 repeat' (first|(apply aF;first|(apply aA (k := 9);rfl;exact h1;exact Pur.pf;rfl)|(apply aA (k := 22);rfl;exact hI;(rfl);rfl)|(apply aA (k := 21);rfl;exact h4;exact Pur.pf;rfl))|refine bB ?_|refine cC ?_|fail)
 show dE _ _ _ _ _ _
 refine aS (bH ?_)
 refine aU (l1 := [_]) ?_
 repeat' (first|refine bB ?_|fail)
 refine ⟨rfl,?_⟩
 refine b7 rfl (.cons (.pur PurV.pf) .nil) h1t rfl ?_
 rintro _ _ ⟨a4,d4,B4,a5,d5,B5,rfl,rfl⟩
 refine aU (l1 := [_,_]) (l2 := []) ?_
 repeat' (first|refine bB ?_|fail)
 refine ⟨rfl,?_⟩
 refine bO ?_
 show dE _ _ _ _ _ _
 refine yM (σ := Option Addr × Nat × List Nat) [2,3,4,6,7,8] [(2,_),(3,_),(4,_),(6,_),(7,_),(8,_)] [0,1,2] [(0,some _),(1,some _),(2,some _)] 3 (fun y => [(9,.v (.slice y.1 W.length y.2.1)),(10,bv ok)]) (fun y => []) (fun y => [(.ints p.types,.slice a4 p.types.length d4,B4),(.stms p.body,.slice a5 p.body.length d5,B5),(.ints W,.slice y.1 W.length y.2.1,y.2.2)]) rfl rfl (BX (by kernel_rfl) ?_) ?_
 ·refine lV (i := 0) (i' := 1) (o := ⟨_, _, _, _, _, _⟩) (o' := ⟨_, _, _, _, _, _⟩) (by kernel_rfl) rfl rfl ?_ ?_
  ·repeat' (first|refine bB ?_|fail)
   refine ⟨rfl,?_⟩
   refine bW (i := 1) (o := ⟨_,_,_,_,_,_⟩) (by kernel_rfl) rfl ?_
   repeat' (first|refine bB ?_|fail)
   refine ⟨rfl,?_⟩
   refine bW (i := 2) (o := ⟨_,_,_,_,_,_⟩) (by kernel_rfl) rfl ?_
   repeat' (first|(apply aF;(apply aA (k := 22);rfl;exact hI;(rfl);rfl))|refine bB ?_|fail)
   refine ⟨rfl,?_⟩
   refine z6 (i := 3) (o := ⟨_,_,_,_,_,_⟩) (by kernel_rfl) rfl ?_
   refine b7 rfl (.cons (.agg (.cons (.tree (t := .ints p.types) (B := B4) (by simp)) (.cons (.tree (t := .stms p.body) (B := B5) (by simp)) .nil))) (.cons (.pur PurV.pf) .nil)) h3t rfl ?_
   rintro _ _ ⟨a0,d0,B0,rfl,rfl⟩
   refine bO ⟨rfl,?_⟩
   refine bW (i := 4) (o := ⟨_,_,_,_,_,_⟩) (by kernel_rfl) rfl ?_
   repeat' (first|refine bB ?_|fail)
   refine ⟨rfl,?_⟩
   refine lV (i := 5) (i' := 6) (o := ⟨_,_,_,_,_,_⟩) (o' := ⟨_,_,_,_,_,_⟩) (by kernel_rfl) rfl rfl ?_ ?_
   ·repeat' (first|refine bB ?_|fail)
    refine ⟨rfl,?_⟩
    refine lV (i := 6) (i' := 7) (o := ⟨_,_,_,_,_,_⟩) (o' := ⟨_,_,_,_,_,_⟩) (by kernel_rfl) rfl rfl ?_ ?_
    ·repeat' (first|refine bB ?_|fail)
     refine ⟨rfl,?_⟩
     refine bW (i := 7) (o := ⟨_,_,_,_,_,_⟩) (by kernel_rfl) rfl ?_
     repeat' (first|refine bB ?_|fail)
     refine ⟨rfl,?_⟩
     refine bW (i := 8) (o := ⟨_,_,_,_,_,_⟩) (by kernel_rfl) rfl ?_
     repeat' (first|refine bB ?_|fail)
     refine ⟨rfl,?_⟩
     refine o6 ⟨(a0,d0,B0),?_,rfl⟩ (by kernel_rfl)
     exact DH
    ·repeat' (first|refine bB ?_|fail)
     refine ⟨rfl,?_⟩
     refine bW (i := 6) (o := ⟨_,_,_,_,_,_⟩) (by kernel_rfl) rfl ?_
     repeat' (first|refine bB ?_|fail)
     refine ⟨rfl,?_⟩
     refine bW (i := 8) (o := ⟨_,_,_,_,_,_⟩) (by kernel_rfl) rfl ?_
     repeat' (first|refine bB ?_|fail)
     refine ⟨rfl,?_⟩
     refine o6 ⟨(a0,d0,B0),?_,rfl⟩ (by kernel_rfl)
     exact DH
   ·repeat' (first|refine bB ?_|fail)
    refine ⟨rfl,?_⟩
    refine bW (i := 5) (o := ⟨_,_,_,_,_,_⟩) (by kernel_rfl) rfl ?_
    repeat' (first|refine bB ?_|fail)
    refine ⟨rfl,?_⟩
    refine bW (i := 7) (o := ⟨_,_,_,_,_,_⟩) (by kernel_rfl) rfl ?_
    repeat' (first|refine bB ?_|fail)
    refine ⟨rfl,?_⟩
    refine bW (i := 8) (o := ⟨_,_,_,_,_,_⟩) (by kernel_rfl) rfl ?_
    repeat' (first|refine bB ?_|fail)
    refine ⟨rfl,?_⟩
    refine o6 ⟨(a0,d0,B0),?_,rfl⟩ (by kernel_rfl)
    exact DH
  ·repeat' (first|refine bB ?_|fail)
   refine ⟨rfl,?_⟩
   refine lV (i := 0) (i' := 2) (o := ⟨_,_,_,_,_,_⟩) (o' := ⟨_,_,_,_,_,_⟩) (by kernel_rfl) rfl rfl ?_ ?_
   ·repeat' (first|refine bB ?_|fail)
    refine ⟨rfl,?_⟩
    refine bW (i := 2) (o := ⟨_,_,_,_,_,_⟩) (by kernel_rfl) rfl ?_
    repeat' (first|(apply aF;(apply aA (k := 22);rfl;exact hI;(rfl);rfl))|refine bB ?_|fail)
    refine ⟨rfl,?_⟩
    refine z6 (i := 3) (o := ⟨_,_,_,_,_,_⟩) (by kernel_rfl) rfl ?_
    refine b7 rfl (.cons (.agg (.cons (.tree (t := .ints p.types) (B := B4) (by simp)) (.cons (.tree (t := .stms p.body) (B := B5) (by simp)) .nil))) (.cons (.pur PurV.pf) .nil)) h3t rfl ?_
    rintro _ _ ⟨a0,d0,B0,rfl,rfl⟩
    refine bO ⟨rfl,?_⟩
    refine bW (i := 4) (o := ⟨_,_,_,_,_,_⟩) (by kernel_rfl) rfl ?_
    repeat' (first|refine bB ?_|fail)
    refine ⟨rfl,?_⟩
    refine lV (i := 5) (i' := 6) (o := ⟨_,_,_,_,_,_⟩) (o' := ⟨_,_,_,_,_,_⟩) (by kernel_rfl) rfl rfl ?_ ?_
    ·repeat' (first|refine bB ?_|fail)
     refine ⟨rfl,?_⟩
     refine lV (i := 6) (i' := 7) (o := ⟨_,_,_,_,_,_⟩) (o' := ⟨_,_,_,_,_,_⟩) (by kernel_rfl) rfl rfl ?_ ?_
     ·repeat' (first|refine bB ?_|fail)
      refine ⟨rfl,?_⟩
      refine bW (i := 7) (o := ⟨_,_,_,_,_,_⟩) (by kernel_rfl) rfl ?_
      repeat' (first|refine bB ?_|fail)
      refine ⟨rfl,?_⟩
      refine bW (i := 8) (o := ⟨_,_,_,_,_,_⟩) (by kernel_rfl) rfl ?_
      repeat' (first|refine bB ?_|fail)
      refine ⟨rfl,?_⟩
      refine o6 ⟨(a0,d0,B0),?_,rfl⟩ (by kernel_rfl)
      exact DH
     ·repeat' (first|refine bB ?_|fail)
      refine ⟨rfl,?_⟩
      refine bW (i := 6) (o := ⟨_,_,_,_,_,_⟩) (by kernel_rfl) rfl ?_
      repeat' (first|refine bB ?_|fail)
      refine ⟨rfl,?_⟩
      refine bW (i := 8) (o := ⟨_,_,_,_,_,_⟩) (by kernel_rfl) rfl ?_
      repeat' (first|refine bB ?_|fail)
      refine ⟨rfl,?_⟩
      refine o6 ⟨(a0,d0,B0),?_,rfl⟩ (by kernel_rfl)
      exact DH
    ·repeat' (first|refine bB ?_|fail)
     refine ⟨rfl,?_⟩
     refine bW (i := 5) (o := ⟨_,_,_,_,_,_⟩) (by kernel_rfl) rfl ?_
     repeat' (first|refine bB ?_|fail)
     refine ⟨rfl,?_⟩
     refine bW (i := 7) (o := ⟨_,_,_,_,_,_⟩) (by kernel_rfl) rfl ?_
     repeat' (first|refine bB ?_|fail)
     refine ⟨rfl,?_⟩
     refine bW (i := 8) (o := ⟨_,_,_,_,_,_⟩) (by kernel_rfl) rfl ?_
     repeat' (first|refine bB ?_|fail)
     refine ⟨rfl,?_⟩
     refine o6 ⟨(a0,d0,B0),?_,rfl⟩ (by kernel_rfl)
     exact DH
   ·repeat' (first | (apply aF; (apply aA (k := 22);rfl;exact hI;(rfl);rfl)) | refine bB ?_|fail)
    refine ⟨rfl,?_⟩
    refine bW (i := 0) (o := ⟨_,_,_,_,_,_⟩) (by kernel_rfl) rfl ?_
    repeat' (first|refine bB ?_|fail)
    refine ⟨rfl,?_⟩
    refine z6 (i := 3) (o := ⟨_,_,_,_,_,_⟩) (by kernel_rfl) rfl ?_
    refine b7 rfl (.cons (.agg (.cons (.tree (t := .ints p.types) (B := B4) (by simp)) (.cons (.tree (t := .stms p.body) (B := B5) (by simp)) .nil))) (.cons (.pur PurV.pf) .nil)) h3t rfl ?_
    rintro _ _ ⟨a0,d0,B0,rfl,rfl⟩
    refine bO ⟨rfl,?_⟩
    refine bW (i := 4) (o := ⟨_,_,_,_,_,_⟩) (by kernel_rfl) rfl ?_
    repeat' (first|refine bB ?_|fail)
    refine ⟨rfl,?_⟩
    refine lV (i := 5) (i' := 6) (o := ⟨_,_,_,_,_,_⟩) (o' := ⟨_,_,_,_,_,_⟩) (by kernel_rfl) rfl rfl ?_ ?_
    ·repeat' (first|refine bB ?_|fail)
     refine ⟨rfl,?_⟩
     refine lV (i := 6) (i' := 7) (o := ⟨_,_,_,_,_,_⟩) (o' := ⟨_,_,_,_,_,_⟩) (by kernel_rfl) rfl rfl ?_ ?_
     ·repeat' (first|refine bB ?_|fail)
      refine ⟨rfl,?_⟩
      refine bW (i := 7) (o := ⟨_,_,_,_,_,_⟩) (by kernel_rfl) rfl ?_
      repeat' (first|refine bB ?_|fail)
      refine ⟨rfl,?_⟩
      refine bW (i := 8) (o := ⟨_,_,_,_,_,_⟩) (by kernel_rfl) rfl ?_
      repeat' (first|refine bB ?_|fail)
      refine ⟨rfl,?_⟩
      refine o6 ⟨(a0,d0,B0),?_,rfl⟩ (by kernel_rfl)
      exact DH
     ·repeat' (first|refine bB ?_|fail)
      refine ⟨rfl,?_⟩
      refine bW (i := 6) (o := ⟨_,_,_,_,_,_⟩) (by kernel_rfl) rfl ?_
      repeat' (first|refine bB ?_|fail)
      refine ⟨rfl,?_⟩
      refine bW (i := 8) (o := ⟨_,_,_,_,_,_⟩) (by kernel_rfl) rfl ?_
      repeat' (first|refine bB ?_|fail)
      refine ⟨rfl,?_⟩
      refine o6 ⟨(a0,d0,B0),?_,rfl⟩ (by kernel_rfl)
      exact DH
    ·repeat' (first|refine bB ?_|fail)
     refine ⟨rfl,?_⟩
     refine bW (i := 5) (o := ⟨_,_,_,_,_,_⟩) (by kernel_rfl) rfl ?_
     repeat' (first|refine bB ?_|fail)
     refine ⟨rfl,?_⟩
     refine bW (i := 7) (o := ⟨_,_,_,_,_,_⟩) (by kernel_rfl) rfl ?_
     repeat' (first|refine bB ?_|fail)
     refine ⟨rfl,?_⟩
     refine bW (i := 8) (o := ⟨_,_,_,_,_,_⟩) (by kernel_rfl) rfl ?_
     repeat' (first|refine bB ?_|fail)
     refine ⟨rfl,?_⟩
     refine o6 ⟨(a0,d0,B0),?_,rfl⟩ (by kernel_rfl)
     exact DH
 rintro ⟨a0,d0,B0⟩
 show dE _ _ _ _ _ _
 refine aS (aS (bH ?_))
 refine aU (l1 := [_,_]) ?_
 repeat' (first|refine bB ?_|fail)
 refine ⟨rfl,?_⟩
 refine b7 rfl (.cons (.tree (t := .ints W) (B := B0) (by simp)) (.cons (.pur PurV.pf) .nil)) (eF h5 rfl) rfl ?_
 rintro _ _ ⟨rfl,rfl⟩
 rw [List.append_nil]
 refine aU (l1 := [_,_,_,_,_,_]) (l2 := []) ?_
 repeat' (first|refine bB ?_|fail)
 refine ⟨rfl,bO ?_⟩
 show dE _ _ _ _ _ _
 refine k6 rfl (fun hb => by simp at hb) (fun _ => k4 ?_)
 show dE _ _ _ _ _ _
 refine aS (yM (σ := Unit) [2,3,4,6,7,8,9,10] [(2,_),(3,_),(4,_),(6,_),(7,_),(8,_),(9,_),(10,_)] [0,1,2] [(0,some _),(1,some _),(2,some _)] 3 (fun y => [(51,bv false)]) (fun y => []) (fun y => [(.ints p.types,.slice a4 p.types.length d4,B4),(.stms p.body,.slice a5 p.body.length d5,B5),(.ints W,.slice a0 W.length d0,B0)]) rfl rfl (BX (by kernel_rfl) ?_) ?_)
 ·refine lV (i := 0) (i' := 1) (o := ⟨_, _, _, _, _, _⟩) (o' := ⟨_, _, _, _, _, _⟩) (by kernel_rfl) rfl rfl ?_ ?_
  ·repeat' (first|refine bB ?_|fail)
   refine ⟨rfl,?_⟩
   refine bW (i := 1) (o := ⟨_,_,_,_,_,_⟩) (by kernel_rfl) rfl ?_
   repeat' (first|refine bB ?_|fail)
   refine ⟨rfl,?_⟩
   refine bW (i := 2) (o := ⟨_,_,_,_,_,_⟩) (by kernel_rfl) rfl ?_
   repeat' (first|(apply aF;(apply aA (k := 9);rfl;exact h1;exact Pur.pf;rfl))|refine bB ?_|fail)
   refine ⟨rfl,?_⟩
   refine z6 (i := 3) (o := ⟨_,_,_,_,_,_⟩) (by kernel_rfl) rfl ?_
   refine b7 rfl (.cons (.agg (.cons (.tree (t := .ints p.types) (B := B4) (by simp)) (.cons (.tree (t := .stms p.body) (B := B5) (by simp)) .nil))) (.cons (.pur PurV.pf) .nil)) (eF h2 rfl) rfl ?_
   rintro _ _ ⟨rfl,rfl⟩
   rw [List.append_nil]
   refine bO ⟨rfl,?_⟩
   refine bW (i := 4) (o := ⟨_,_,_,_,_,_⟩) (by kernel_rfl) rfl ?_
   repeat' (first|refine bB ?_|fail)
   refine ⟨rfl,?_⟩
   refine o6 ⟨(),?_,rfl⟩ (by kernel_rfl)
   exact DH
  ·repeat' (first|refine bB ?_|fail)
   refine ⟨rfl,?_⟩
   refine lV (i := 0) (i' := 2) (o := ⟨_,_,_,_,_,_⟩) (o' := ⟨_,_,_,_,_,_⟩) (by kernel_rfl) rfl rfl ?_ ?_
   ·repeat' (first|refine bB ?_|fail)
    refine ⟨rfl,?_⟩
    refine bW (i := 2) (o := ⟨_,_,_,_,_,_⟩) (by kernel_rfl) rfl ?_
    repeat' (first|(apply aF;(apply aA (k := 9);rfl;exact h1;exact Pur.pf;rfl))|refine bB ?_|fail)
    refine ⟨rfl,?_⟩
    refine z6 (i := 3) (o := ⟨_,_,_,_,_,_⟩) (by kernel_rfl) rfl ?_
    refine b7 rfl (.cons (.agg (.cons (.tree (t := .ints p.types) (B := B4) (by simp)) (.cons (.tree (t := .stms p.body) (B := B5) (by simp)) .nil))) (.cons (.pur PurV.pf) .nil)) (eF h2 rfl) rfl ?_
    rintro _ _ ⟨rfl,rfl⟩
    rw [List.append_nil]
    refine bO ⟨rfl,?_⟩
    refine bW (i := 4) (o := ⟨_,_,_,_,_,_⟩) (by kernel_rfl) rfl ?_
    repeat' (first|refine bB ?_|fail)
    refine ⟨rfl,?_⟩
    refine o6 ⟨(),?_,rfl⟩ (by kernel_rfl)
    exact DH
   ·repeat' (first | (apply aF; (apply aA (k := 9);rfl;exact h1;exact Pur.pf;rfl)) | refine bB ?_|fail)
    refine ⟨rfl,?_⟩
    refine bW (i := 0) (o := ⟨_,_,_,_,_,_⟩) (by kernel_rfl) rfl ?_
    repeat' (first|refine bB ?_|fail)
    refine ⟨rfl,?_⟩
    refine z6 (i := 3) (o := ⟨_,_,_,_,_,_⟩) (by kernel_rfl) rfl ?_
    refine b7 rfl (.cons (.agg (.cons (.tree (t := .ints p.types) (B := B4) (by simp)) (.cons (.tree (t := .stms p.body) (B := B5) (by simp)) .nil))) (.cons (.pur PurV.pf) .nil)) (eF h2 rfl) rfl ?_
    rintro _ _ ⟨rfl,rfl⟩
    rw [List.append_nil]
    refine bO ⟨rfl,?_⟩
    refine bW (i := 4) (o := ⟨_,_,_,_,_,_⟩) (by kernel_rfl) rfl ?_
    repeat' (first|refine bB ?_|fail)
    refine ⟨rfl,?_⟩
    refine o6 ⟨(),?_,rfl⟩ (by kernel_rfl)
    exact DH
 rintro _
 show dE _ _ _ _ _ _
 refine k6 rfl (fun hb => by cases hb) (fun _ => k4 ?_)
 show dE _ _ _ _ _ _
 refine aS (awt_lift ?_)
 repeat' (first|refine aC ?_|fail)
 show dE _ _ _ _ _ _
 refine aS (bH ?_)
 refine aU (l1 := [_,_]) ?_
 repeat' (first|refine bB ?_|fail)
 refine ⟨rfl,?_⟩
 refine iU [] [(.ints p.types,.slice a4 p.types.length d4,B4),(.stms p.body,.slice a5 p.body.length d5,B5)] [(.ints W,.slice a0 W.length d0,B0)] rfl rfl rfl (rZ p 1 hl hs (by decide) (by decide) a4 d4 B4 a5 d5 B5) rfl rfl ?_
 refine aU (l1 := [_]) (l2 := []) ?_
 repeat' (first|refine bB ?_|fail)
 refine ⟨rfl,bO ?_⟩
 show dE _ _ _ _ _ _
 refine aS (aS (bH ?_))
 refine aU (l1 := [_,_,_,_,_]) ?_
 repeat' (first|refine bB ?_|fail)
 all_goals try (exfalso;omega)
 refine ⟨rfl,?_⟩
 refine C3 rfl rfl (decide_eq_false (by omega)) ?_
 refine b7 rfl (.cons (.tree (t := .ints W) (B := B0) (by simp)) (.cons (.pur PurV.pf) .nil)) (eF h5 rfl) rfl ?_
 rintro _ _ ⟨rfl,rfl⟩
 rw [List.append_nil]
 refine aU (l1 := [_,_,_,_,_,_,_]) (l2 := []) ?_
 repeat' (first|refine bB ?_|fail)
 all_goals try (exfalso;omega)
 refine ⟨rfl,?_⟩
 refine bO ?_
 show dE _ _ _ _ _ _
 refine k6 rfl (fun hb => by simp at hb) (fun _ => k4 ?_)
 show dE _ _ _ _ _ _
 refine aS (awt_lift ?_)
 repeat' (first|refine aC ?_|fail)
 show dE _ _ _ _ _ _
 refine aS (bH ?_)
 refine aU (l1 := [_,_]) ?_
 repeat' (first|refine bB ?_|fail)
 refine ⟨rfl,?_⟩
 refine iU [(.ints (sV 1 p.types.length),.slice a4 p.types.length d4,B4),(.stms (oM (1 + p.types.length) p.body),.slice a5 p.body.length d5,B5)] [(.ints W,.slice a0 W.length d0,B0)] [] (E0' := [(.ints (sV 1 W.length),.slice a0 W.length d0,B0)]) rfl rfl rfl (m1.e _ B0) rfl rfl ?_
 refine aU (l1 := [_]) (l2 := []) ?_
 repeat' (first|refine bB ?_|fail)
 refine ⟨rfl,bO ?_⟩
 show dE _ _ _ _ _ _
 refine aS (awt_lift ?_)
 repeat' (first|refine aC ?_|fail)
 show dE _ _ _ _ _ _
 refine aS (bH ?_)
 refine aU (l1 := [_,_]) ?_
 repeat' (first|refine bB ?_|fail)
 refine ⟨rfl,?_⟩
 refine b7 rfl (.cons (.tree (t := .ints (sV 1 W.length)) (B := B0) (by simp)) (.cons (.pur PurV.pf) .nil)) (eF h6 rfl) rfl ?_
 rintro _ _ ⟨rfl,rfl⟩
 rw [List.append_nil]
 refine aU (l1 := [_]) (l2 := []) ?_
 repeat' (first|refine bB ?_|fail)
 refine ⟨rfl,?_⟩
 refine bO ?_
 show dE _ _ _ _ _ _
 refine aS (awt_lift ?_)
 repeat' (first|refine aC ?_|fail)
 all_goals first|(exfalso;omega)|(exfalso;exact (by assumption : ¬ True) trivial)|(show dE _ _ _ _ _ _)
 refine aS (awt_lift ?_)
 repeat' (first|refine aC ?_|(refine aJ ?_ ?_ <;> intro hc hq <;> try (exfalso;omega))|fail)
 all_goals first|(exfalso;omega)|(exfalso;exact (by assumption : ¬ True) trivial)|(show dE _ _ _ _ _ _)
 refine aS (awt_lift ?_)
 repeat' (first|(apply aF;first|(apply aA (k := 9);rfl;exact h1;exact Pur.pf;rfl)|(apply aA (k := 22);rfl;exact hI;(rfl);rfl)|(apply aA (k := 23);rfl;exact h3;exact Pur.pf;rfl))|refine bB ?_|refine cC ?_|fail)
 show dE _ _ _ _ _ _
 refine aS (awt_lift ?_)
 repeat' (first|(apply aF;(apply aA (k := 11);rfl;exact h5;exact Pur.pf;rfl))|refine aC ?_|fail)
 show dE _ _ _ _ _ _
 refine aS (awt_lift ?_)
 repeat' (first|refine aC ?_|fail)
 show dE _ _ _ _ _ _
 refine aS (bH ?_)
 refine aU (l1 := [_,_]) ?_
 repeat' (first|refine bB ?_|fail)
 refine ⟨rfl,?_⟩
 refine b7 rfl (.cons (.tree (t := .ints (sV 1 W.length)) (B := B0) (by simp)) (.cons (.pur PurV.pf) .nil)) (eF h6 rfl) rfl ?_
 rintro _ _ ⟨rfl,rfl⟩
 rw [List.append_nil]
 refine aU (l1 := [_]) (l2 := []) ?_
 repeat' (first|refine bB ?_|fail)
 refine ⟨rfl,?_⟩
 refine bO ?_
 show dE _ _ _ _ _ _
 refine aS (awt_lift ?_)
 repeat' (first|refine aC ?_|fail)
 all_goals first|(exfalso;omega)|(exfalso;exact (by assumption : ¬ True) trivial)|(show dE _ _ _ _ _ _)
 refine aS (awt_lift ?_)
 repeat' (first|refine aC ?_|fail)
 all_goals first|(exfalso;omega)|(exfalso;exact (by assumption : ¬ True) trivial)|(show dE _ _ _ _ _ _)
 refine awt_lift ?_
 repeat' (first|refine aC ?_|fail)
 exact uS (l := [bv true]) rfl rfl rfl rfl
end Go.Proofs.YtgkalkgplcdnkaaGreat
namespace Go.Proofs.YtgkalkgplcdnkaaGreat
open Go.AL Go.ChangeShapes Go.WideShapes Go.ChangeAt Go.RowKit
theorem uL {P:Program}{k:FuncId}{avs:List AV}(h:rT P k avs (fun r E => r = bv true)){W:World}{vs:List Value}(hv:RdV W (fun _ => False) (fun _ => none) avs vs) :
  Calls P k vs.toArray W fun e W' => e = .returned (.bool true) ∧ Below W.heap.size W W' := by
 refine (h W (fun _ => False) vs (fun _ q => q.elim) hv).mono ?_
 rintro e W' ⟨v,r,E,rfl,rfl,_,h4,f,_,_⟩
 simp only [Rd] at h4
 subst h4
 exact ⟨rfl,f.os,f.tape,f.output,f.size,fun b hb => f.block b hb (fun h => h)⟩
theorem En {P:Program}{k:FuncId}{avs:List AV}(h:PC P k avs (fun r => r = bv true)):rT P k avs (fun r E => r = bv true):=by
 intro w bad vals hb hv
 refine (eF h rfl w bad vals hb hv).mono ?_
 rintro e w' ⟨v,r,E,h1,⟨h2,_⟩,h3⟩
 exact ⟨v,r,E,h1,h2,h3⟩
end Go.Proofs.YtgkalkgplcdnkaaGreat
namespace Go.Proofs.YtgkalkgplcdnkaaGreat
open Go.AL Go.RowKit
theorem mC (p:Prg) (x:Iss) (hl:p.types.length ≤ 9223372036854775807) (hln:Fq p.body):rT Tryz.prog 6 [cA p,fU x] (fun r E => r = bv true):=by
 have c0 := oZ p 1048576 (by decide) (by decide) hl hln
 by_cases q : ((p.types.length + aM p.body : Nat) : Int) ≤ 1048576
 ·exact uP p x (by omega) (by omega) hln q
 ·rw [iW q] at c0
  refine En ?_
  refine aD Tryz.func6 Tryz.ntmps6 ?_
  repeat' (first|(apply aF;(apply aA (k := 7);rfl;exact c0;exact Pur.pf;rfl))|refine aC ?_|fail)
  all_goals first
   | exact aI rfl ⟨rfl,rfl⟩
   | (exfalso;omega)
end Go.Proofs.YtgkalkgplcdnkaaGreat
