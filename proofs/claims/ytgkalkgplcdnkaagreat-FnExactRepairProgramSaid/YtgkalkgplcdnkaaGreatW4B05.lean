/-
 A part of the proofs over this program: rules and contracts of its functions (the contracts).
-/
import Derived.Test.YtgkalkgplcdnkaaGreatW4B04
set_option linter.unusedVariables false
set_option linter.unusedSimpArgs false
set_option maxHeartbeats 8000000
set_option maxRecDepth 4000
attribute [local irreducible] Go.AL.RW Go.AL.AW Go.AL.Stop
namespace Go.Proofs.YtgkalkgplcdnkaaGreat
open Go.AL Go.RowKit
theorem DG (p:Prg) (hl:p.types.length ≤ 1048576) (hs:aJ p.body ≤ 1048576):∃ (Q:Prg) (M:List Int),oW Tryz.prog 17 [bW p] (GR Q M) ∧ PC Tryz.prog 17 [bW p] (fun r => r = .tup [bW Q,sl cI M]) ∧
  PC Tryz.prog 16 [bW p] (fun r => r = .tup [bW Q,sl cI M]) ∧ Q.types.length ≤ 1048576 ∧ aJ Q.body ≤ 1048576 ∧ M.length ≤ 1048576 := by
 cases hv : bZ p with
 | false => exact ⟨⟨[],[]⟩,[],yX p hv hl hs,Ao p hv hl hs,Aw p hv hl hs,by simp,by simp [aJ],by simp⟩
 | true =>
  obtain ⟨t1,t2,t3⟩ := wV hv
  have htl := fV t1
  have hex := fun (q : Prg) (hq : bZ q = true) => FI.ex q (by
   unfold bZ at hq;simp only [Bool.and_eq_true,decide_eq_true_eq] at hq;omega) (by
   unfold bZ at hq;simp only [Bool.and_eq_true,decide_eq_true_eq] at hq;have := fV hq.1.1;omega) hq
  obtain ⟨Q,M,hR⟩ := RepS.ex hex p.body.length p (Jx p.body.length []) [] (Nat.le_refl _) hv
  obtain ⟨f1,f2,f3,f4,f5⟩ := hR.fin hv
  have hlen := bE p.body
  simp only [List.length_nil,Nat.zero_add] at f5
  exact ⟨Q,M,C2 p hv hl hs Q M hR,CK p hv hl hs Q M hR,BQ p hv hl hs Q M hR,by rw [f3]; exact hl,by omega,by omega⟩
theorem oX (p:Prg) (hl:p.types.length ≤ 1048576) (hs:aJ p.body ≤ 1048576) (hln:Dr p.body) (q:((p.types.length + aJ p.body:Nat):Int) ≤ 1048576):oW Tryz.prog 4 [bW p] (fun r E => r = bv true):=by
 have c0 := oL p 1048576 (by decide) (by decide) (by omega) hln
 rw [lS q] at c0
 have h1 := wC p hl hs
 have h1t := xO p hl hs
 have h2 := oN p hl hs
 obtain ⟨Q,M,h3t,h3,h4,hQl,hQs,hMl⟩ := DG p hl hs
 have h5 := oN Q hQl hQs
 have h5m := yL M hMl
 have h6 := rP Q.types.length Q.body 1 (by omega) (by omega) (by decide) (by decide) hQs
 have h7 := qV M.length (1 + (Q.types.length : Int) + 4 * (aJ Q.body : Nat)) (by omega) (by omega)
 have m1 := qW M (1 + (Q.types.length : Int) + 4 * (aJ Q.body : Nat)) (by omega) (by omega)
 (refine cS Tryz.func4 rfl (by simp [Tryz.ntmps4]) ?_; rw [Tryz.ntmps4])
 iterate 4
  refine aN (awt_lift ?_)
  repeat' (first|(apply aH;(apply aA (k := 7);rfl;exact c0;exact Pur.pf;rfl))|refine aB ?_|(refine aV ?_ ?_ <;> intro hc hq <;> try (exfalso;omega))|fail)
  show cC _ _ _ _ _ _
 refine aN (awt_lift ?_)
 repeat' (first|(apply aH;first|(apply aA (k := 9);rfl;exact h1;exact Pur.pf;rfl)|(apply aA (k := 16);rfl;exact h4;exact Pur.pf;rfl))|refine aB ?_|fail)
 show cC _ _ _ _ _ _
 refine aN (aZ ?_)
 refine aS (l1 := [_]) ?_
 repeat' (first|refine aO ?_|fail)
 refine ⟨rfl,?_⟩
 refine aM rfl (.cons (.pur PurV.pf) .nil) h1t rfl ?_
 rintro _ _ ⟨a4,d4,B4,a5,d5,B5,rfl,rfl⟩
 refine aS (l1 := [_,_]) (l2 := []) ?_
 repeat' (first|refine aO ?_|fail)
 refine ⟨rfl,aK ?_⟩
 show cC _ _ _ _ _ _
 refine aN (aZ ?_)
 refine aS (l1 := [_]) ?_
 repeat' (first|refine aO ?_|fail)
 refine ⟨rfl,?_⟩
 refine aM rfl (.cons (.agg (.cons (.tree (t := .ints p.types) (B := B4) (by simp)) (.cons (.tree (t := .stms p.body) (B := B5) (by simp)) .nil))) .nil) h3t rfl ?_
 rintro _ _ ⟨a6,d6,B6,a7,d7,B7,a8,d8,B8,rfl,rfl⟩
 refine aS (l1 := [_,_,_,_,_,_]) (l2 := []) ?_
 repeat' (first|refine aO ?_|fail)
 refine ⟨rfl,aK ?_⟩
 show cC _ _ _ _ _ _
 refine aN (aN (aZ ?_))
 refine aS (l1 := [_,_]) ?_
 repeat' (first|refine aO ?_|fail)
 refine ⟨rfl,?_⟩
 refine aM rfl (.cons (.agg (.cons (.tree (t := .ints Q.types) (B := B6) (by simp)) (.cons (.tree (t := .stms Q.body) (B := B7) (by simp)) .nil))) (.cons (.pur PurV.pf) .nil)) (cG h5 rfl) rfl ?_
 rintro _ _ ⟨rfl,rfl⟩
 rw [List.append_nil]
 refine aS (l1 := [_,_,_,_]) ?_
 repeat' (first|refine aO ?_|fail)
 refine ⟨rfl,?_⟩
 refine oC rfl rfl rfl ?_
 refine aM rfl (.cons (.tree (t := .ints M) (B := B8) (by simp)) (.cons (.pur PurV.pf) .nil)) (cG h5m rfl) rfl ?_
 rintro _ _ ⟨rfl,rfl⟩
 rw [List.append_nil]
 refine aS (l1 := [_,_]) (l2 := []) ?_
 repeat' (first|refine aO ?_|fail)
 refine ⟨rfl,aK ?_⟩
 show cC _ _ _ _ _ _
 refine fY rfl (fun hb => by simp at hb) (fun _ => gX ?_)
 show cC _ _ _ _ _ _
 refine aN (mP (σ := Unit) [1,2,4,5,6,7,8] [(1,_),(2,_),(4,_),(5,_),(6,_),(7,_),(8,_)] [0,1,2,3] [(0,some _),(1,some _),(2,some _),(3,some _)] 4 (fun y => [(46,bv false)]) (fun y => []) (fun y => [(.ints p.types,.slice a4 p.types.length d4,B4),(.stms p.body,.slice a5 p.body.length d5,B5),(.ints Q.types,.slice a6 Q.types.length d6,B6),(.stms Q.body,.slice a7 Q.body.length d7,B7),(.ints M,.slice a8 M.length d8,B8)]) rfl rfl (tW (by kernel_rfl) ?_) ?_)
 ·refine jW (i := 0) (i' := 1) (o := ⟨_, _, _, _, _, _⟩) (o' := ⟨_, _, _, _, _, _⟩) (by kernel_rfl) rfl rfl ?_ ?_
  ·repeat' (first|refine aO ?_|fail)
   refine ⟨rfl,?_⟩
   refine aT (i := 1) (o := ⟨_,_,_,_,_,_⟩) (by kernel_rfl) rfl ?_
   repeat' (first|refine aO ?_|fail)
   refine ⟨rfl,?_⟩
   refine aT (i := 2) (o := ⟨_,_,_,_,_,_⟩) (by kernel_rfl) rfl ?_
   repeat' (first|(apply aH;(apply aA (k := 9);rfl;exact h1;exact Pur.pf;rfl))|refine aO ?_|fail)
   refine ⟨rfl,?_⟩
   refine dY (i := 3) (o := ⟨_,_,_,_,_,_⟩) (by kernel_rfl) rfl ?_
   refine aM rfl (.cons (.agg (.cons (.tree (t := .ints p.types) (B := B4) (by simp)) (.cons (.tree (t := .stms p.body) (B := B5) (by simp)) .nil))) (.cons (.pur PurV.pf) .nil)) (cG h2 rfl) rfl ?_
   rintro _ _ ⟨rfl,rfl⟩
   rw [List.append_nil]
   refine aK ⟨rfl,?_⟩
   refine aT (i := 4) (o := ⟨_,_,_,_,_,_⟩) (by kernel_rfl) rfl ?_
   repeat' (first|refine aO ?_|fail)
   refine ⟨rfl,?_⟩
   refine eR ⟨(),?_,rfl⟩ (by kernel_rfl)
   exact kM
  ·repeat' (first|refine aO ?_|fail)
   refine ⟨rfl,?_⟩
   refine jW (i := 0) (i' := 2) (o := ⟨_,_,_,_,_,_⟩) (o' := ⟨_,_,_,_,_,_⟩) (by kernel_rfl) rfl rfl ?_ ?_
   ·repeat' (first|refine aO ?_|fail)
    refine ⟨rfl,?_⟩
    refine aT (i := 2) (o := ⟨_,_,_,_,_,_⟩) (by kernel_rfl) rfl ?_
    repeat' (first|(apply aH;(apply aA (k := 9);rfl;exact h1;exact Pur.pf;rfl))|refine aO ?_|fail)
    refine ⟨rfl,?_⟩
    refine dY (i := 3) (o := ⟨_,_,_,_,_,_⟩) (by kernel_rfl) rfl ?_
    refine aM rfl (.cons (.agg (.cons (.tree (t := .ints p.types) (B := B4) (by simp)) (.cons (.tree (t := .stms p.body) (B := B5) (by simp)) .nil))) (.cons (.pur PurV.pf) .nil)) (cG h2 rfl) rfl ?_
    rintro _ _ ⟨rfl,rfl⟩
    rw [List.append_nil]
    refine aK ⟨rfl,?_⟩
    refine aT (i := 4) (o := ⟨_,_,_,_,_,_⟩) (by kernel_rfl) rfl ?_
    repeat' (first|refine aO ?_|fail)
    refine ⟨rfl,?_⟩
    refine eR ⟨(),?_,rfl⟩ (by kernel_rfl)
    exact kM
   ·repeat' (first | (apply aH; (apply aA (k := 9);rfl;exact h1;exact Pur.pf;rfl)) | refine aO ?_|fail)
    refine ⟨rfl,?_⟩
    refine aT (i := 0) (o := ⟨_,_,_,_,_,_⟩) (by kernel_rfl) rfl ?_
    repeat' (first|refine aO ?_|fail)
    refine ⟨rfl,?_⟩
    refine dY (i := 3) (o := ⟨_,_,_,_,_,_⟩) (by kernel_rfl) rfl ?_
    refine aM rfl (.cons (.agg (.cons (.tree (t := .ints p.types) (B := B4) (by simp)) (.cons (.tree (t := .stms p.body) (B := B5) (by simp)) .nil))) (.cons (.pur PurV.pf) .nil)) (cG h2 rfl) rfl ?_
    rintro _ _ ⟨rfl,rfl⟩
    rw [List.append_nil]
    refine aK ⟨rfl,?_⟩
    refine aT (i := 4) (o := ⟨_,_,_,_,_,_⟩) (by kernel_rfl) rfl ?_
    repeat' (first|refine aO ?_|fail)
    refine ⟨rfl,?_⟩
    refine eR ⟨(),?_,rfl⟩ (by kernel_rfl)
    exact kM
 rintro _
 show cC _ _ _ _ _ _
 refine fY rfl (fun hb => by cases hb) (fun _ => gX ?_)
 show cC _ _ _ _ _ _
 refine aN (awt_lift ?_)
 repeat' (first|refine aB ?_|fail)
 show cC _ _ _ _ _ _
 refine aN (aZ ?_)
 refine aS (l1 := [_,_]) ?_
 repeat' (first|refine aO ?_|fail)
 refine ⟨rfl,?_⟩
 refine hU [] [(.ints p.types,.slice a4 p.types.length d4,B4),(.stms p.body,.slice a5 p.body.length d5,B5)] [(.ints Q.types,.slice a6 Q.types.length d6,B6),(.stms Q.body,.slice a7 Q.body.length d7,B7),(.ints M,.slice a8 M.length d8,B8)] rfl rfl rfl (lV p 1 hl hs (by decide) (by decide) a4 d4 B4 a5 d5 B5) rfl rfl ?_
 refine aS (l1 := [_]) (l2 := []) ?_
 repeat' (first|refine aO ?_|fail)
 refine ⟨rfl,aK ?_⟩
 show cC _ _ _ _ _ _
 refine aN (aN (aZ ?_))
 refine aS (l1 := [_,_,_,_,_]) ?_
 repeat' (first|refine aO ?_|fail)
 all_goals try (exfalso;omega)
 refine ⟨rfl,?_⟩
 refine oC rfl rfl (decide_eq_false (by omega)) ?_
 refine aM rfl (.cons (.agg (.cons (.tree (t := .ints Q.types) (B := B6) (by simp)) (.cons (.tree (t := .stms Q.body) (B := B7) (by simp)) .nil))) (.cons (.pur PurV.pf) .nil)) (cG h5 rfl) rfl ?_
 rintro _ _ ⟨rfl,rfl⟩
 rw [List.append_nil]
 refine aS (l1 := [_,_,_,_,_]) ?_
 repeat' (first|refine aO ?_|fail)
 all_goals try (exfalso;omega)
 refine ⟨rfl,?_⟩
 refine oC rfl rfl (by (rfl)) ?_
 refine aM rfl (.cons (.tree (t := .ints M) (B := B8) (by simp)) (.cons (.pur PurV.pf) .nil)) (cG h5m rfl) rfl ?_
 rintro _ _ ⟨rfl,rfl⟩
 rw [List.append_nil]
 refine aS (l1 := [_,_]) (l2 := []) ?_
 repeat' (first|refine aO ?_|fail)
 all_goals try (exfalso;omega)
 refine ⟨rfl,?_⟩
 refine aK ?_
 show cC _ _ _ _ _ _
 refine fY rfl (fun hb => by simp at hb) (fun _ => gX ?_)
 show cC _ _ _ _ _ _
 refine aN (awt_lift ?_)
 repeat' (first|refine aB ?_|fail)
 show cC _ _ _ _ _ _
 refine aN (aZ ?_)
 refine aS (l1 := [_,_]) ?_
 repeat' (first|refine aO ?_|fail)
 refine ⟨rfl,?_⟩
 refine hU [(.ints (oK 1 p.types.length),.slice a4 p.types.length d4,B4),(.stms (iC (1 + p.types.length) p.body),.slice a5 p.body.length d5,B5)] [(.ints Q.types,.slice a6 Q.types.length d6,B6),(.stms Q.body,.slice a7 Q.body.length d7,B7)] [(.ints M,.slice a8 M.length d8,B8)] (E0' := [(.ints (oK 1 Q.types.length),.slice a6 Q.types.length d6,B6),(.stms (iC (1 + Q.types.length) Q.body),.slice a7 Q.body.length d7,B7)]) rfl rfl rfl (lV Q 1 hQl hQs (by decide) (by decide) a6 d6 B6 a7 d7 B7) rfl rfl ?_
 refine aS (l1 := [_]) (l2 := []) ?_
 repeat' (first|refine aO ?_|fail)
 refine ⟨rfl,aK ?_⟩
 show cC _ _ _ _ _ _
 refine aN (aZ ?_)
 refine aS (l1 := [_,_]) ?_
 repeat' (first|refine aO ?_|fail)
 refine ⟨rfl,?_⟩
 refine hU [(.ints (oK 1 p.types.length),.slice a4 p.types.length d4,B4),(.stms (iC (1 + p.types.length) p.body),.slice a5 p.body.length d5,B5),(.ints (oK 1 Q.types.length),.slice a6 Q.types.length d6,B6),(.stms (iC (1 + Q.types.length) Q.body),.slice a7 Q.body.length d7,B7)] [(.ints M,.slice a8 M.length d8,B8)] [] (E0' := [(.ints (oK (1 + (Q.types.length : Int) + 4 * (aJ Q.body : Nat)) M.length),.slice a8 M.length d8,B8)]) rfl rfl rfl (m1.e _ B8) rfl rfl ?_
 refine aS (l1 := [_]) (l2 := []) ?_
 repeat' (first|refine aO ?_|fail)
 refine ⟨rfl,aK ?_⟩
 show cC _ _ _ _ _ _
 refine aN (awt_lift ?_)
 repeat' (first|refine aB ?_|fail)
 show cC _ _ _ _ _ _
 refine aN (aZ ?_)
 refine aS (l1 := [_,_]) ?_
 repeat' (first|refine aO ?_|fail)
 refine ⟨rfl,?_⟩
 refine aM rfl (.cons (.agg (.cons (.tree (t := .ints (oK 1 Q.types.length)) (B := B6) (by simp)) (.cons (.tree (t := .stms (iC (1 + Q.types.length) Q.body)) (B := B7) (by simp)) .nil))) (.cons (.pur PurV.pf) .nil)) (cG h6 rfl) rfl ?_
 rintro _ _ ⟨rfl,rfl⟩
 rw [List.append_nil]
 refine aS (l1 := [_]) (l2 := []) ?_
 repeat' (first|refine aO ?_|fail)
 refine ⟨rfl,?_⟩
 refine aK ?_
 show cC _ _ _ _ _ _
 refine aN (awt_lift ?_)
 repeat' (first|refine aB ?_|fail)
 all_goals first|(exfalso;omega)|(exfalso;exact (by assumption : ¬ True) trivial)|(show cC _ _ _ _ _ _)
 refine aN (aZ ?_)
 refine aS (l1 := [_,_]) ?_
 repeat' (first|refine aO ?_|fail)
 refine ⟨rfl,?_⟩
 refine aM rfl (.cons (.tree (t := .ints (oK (1 + (Q.types.length : Int) + 4 * (aJ Q.body : Nat)) M.length)) (B := B8) (by simp)) (.cons (.pur PurV.pf) .nil)) (cG h7 rfl) rfl ?_
 rintro _ _ ⟨rfl,rfl⟩
 rw [List.append_nil]
 refine aS (l1 := [_]) (l2 := []) ?_
 repeat' (first|refine aO ?_|fail)
 refine ⟨rfl,?_⟩
 refine aK ?_
 show cC _ _ _ _ _ _
 refine aN (awt_lift ?_)
 repeat' (first|refine aB ?_|fail)
 all_goals first|(exfalso;omega)|(exfalso;exact (by assumption : ¬ True) trivial)|(show cC _ _ _ _ _ _)
 refine aN (awt_lift ?_)
 repeat' (first|refine aB ?_|(refine aV ?_ ?_ <;> intro hc hq <;> try (exfalso;omega))|fail)
 all_goals first|(exfalso;omega)|(exfalso;exact (by assumption : ¬ True) trivial)|(show cC _ _ _ _ _ _)
 refine aN (awt_lift ?_)
 repeat' (first|(apply aH;first|(apply aA (k := 9);rfl;exact h1;exact Pur.pf;rfl)|(apply aA (k := 17);rfl;exact h3;exact Pur.pf;rfl))|refine aB ?_|fail)
 show cC _ _ _ _ _ _
 refine aN (awt_lift ?_)
 repeat' (first|(apply aH;first|(apply aA (k := 12);rfl;exact h5;exact Pur.pf;rfl)|(apply aA (k := 11);rfl;exact h5m;exact Pur.pf;rfl))|refine aB ?_|fail)
 show cC _ _ _ _ _ _
 refine aN (awt_lift ?_)
 repeat' (first|refine aB ?_|fail)
 show cC _ _ _ _ _ _
 refine aN (aZ ?_)
 refine aS (l1 := [_,_]) ?_
 repeat' (first|refine aO ?_|fail)
 refine ⟨rfl,?_⟩
 refine aM rfl (.cons (.agg (.cons (.tree (t := .ints (oK 1 Q.types.length)) (B := B6) (by simp)) (.cons (.tree (t := .stms (iC (1 + Q.types.length) Q.body)) (B := B7) (by simp)) .nil))) (.cons (.pur PurV.pf) .nil)) (cG h6 rfl) rfl ?_
 rintro _ _ ⟨rfl,rfl⟩
 rw [List.append_nil]
 refine aS (l1 := [_]) (l2 := []) ?_
 repeat' (first|refine aO ?_|fail)
 refine ⟨rfl,?_⟩
 refine aK ?_
 show cC _ _ _ _ _ _
 refine aN (awt_lift ?_)
 repeat' (first|refine aB ?_|fail)
 all_goals first|(exfalso;omega)|(exfalso;exact (by assumption : ¬ True) trivial)|(show cC _ _ _ _ _ _)
 refine aN (aZ ?_)
 refine aS (l1 := [_,_]) ?_
 repeat' (first|refine aO ?_|fail)
 refine ⟨rfl,?_⟩
 refine aM rfl (.cons (.tree (t := .ints (oK (1 + (Q.types.length : Int) + 4 * (aJ Q.body : Nat)) M.length)) (B := B8) (by simp)) (.cons (.pur PurV.pf) .nil)) (cG h7 rfl) rfl ?_
 rintro _ _ ⟨rfl,rfl⟩
 rw [List.append_nil]
 refine aS (l1 := [_]) (l2 := []) ?_
 repeat' (first|refine aO ?_|fail)
 refine ⟨rfl,?_⟩
 refine aK ?_
 show cC _ _ _ _ _ _
 refine aN (awt_lift ?_)
 repeat' (first|refine aB ?_|fail)
 all_goals first|(exfalso;omega)|(exfalso;exact (by assumption : ¬ True) trivial)|(show cC _ _ _ _ _ _)
 refine aN (awt_lift ?_)
 repeat' (first|refine aB ?_|fail)
 all_goals first|(exfalso;omega)|(exfalso;exact (by assumption : ¬ True) trivial)|(show cC _ _ _ _ _ _)
 refine awt_lift ?_
 repeat' (first|refine aB ?_|fail)
 exact nB (l := [bv true]) rfl rfl rfl rfl
theorem jS (p:Prg)  (hl:p.types.length ≤ 9223372036854775807) (hln:Dr p.body):oW Tryz.prog 4 [bW p] (fun r E => r = bv true):=by
 have c0 := oL p 1048576 (by decide) (by decide) hl hln
 by_cases q : ((p.types.length + aJ p.body : Nat) : Int) ≤ 1048576
 ·exact oX p  (by omega) (by omega) hln q
 ·rw [jF q] at c0
  refine ET ?_
  refine aD Tryz.func4 Tryz.ntmps4 ?_
  repeat' (first|(apply aH;(apply aA (k := 7);rfl;exact c0;exact Pur.pf;rfl))|refine aB ?_|fail)
  all_goals first
   | exact aP rfl ⟨rfl,rfl⟩
   | (exfalso;omega)
end Go.Proofs.YtgkalkgplcdnkaaGreat
