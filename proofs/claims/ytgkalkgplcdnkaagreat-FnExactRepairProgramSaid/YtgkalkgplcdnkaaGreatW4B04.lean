/-
 A part of the proofs over this program: rules and contracts of its functions (the contracts).
-/
import Derived.Test.YtgkalkgplcdnkaaGreatW4B03
set_option linter.unusedVariables false
set_option linter.unusedSimpArgs false
set_option maxHeartbeats 8000000
set_option maxRecDepth 4000
attribute [local irreducible] Go.AL.RW Go.AL.AW Go.AL.Stop
namespace Go.Proofs.YtgkalkgplcdnkaaGreat
open Go.AL Go.RowKit
theorem oZ (us rs:List SX) (a:SX) (j:Nat) (hj:j < 6):0 + us.length * 6 + j + 1 ≤ (flat cT (us ++ a :: rs)).length:=by
 rw [aI cT (e := 6),List.length_append,List.length_cons]; omega
theorem tM (m:Nat) (hm:m ≤ 1048576) (ih:∀ l (k:Int),aJ l < m → 0 ≤ k → k + 4 * (aJ l:Nat) ≤ 1000000000 → TMk Tryz.prog 39 (.stms l) (.stms (iC k l)) k (k + 4 * (aJ l:Nat))) (l:List AL.Stmt) (k:Int) (hs:aJ l ≤ m) (hk0:0 ≤ k) (hk:k + 4 * (aJ l:Nat) ≤ 1000000000) :
  TMk Tryz.prog 39 (.stms l) (.stms (iC k l)) k (k + 4 * (aJ l : Nat)) := by
 have hlen := bE l
 refine FD Tryz.func39 rfl (by simp [Tryz.ntmps39]) (fun h => ?_) (fun h xs hxs => ?_)
 ·subst h
  refine ⟨by simp [iC],?_⟩
  refine aD Tryz.func39 Tryz.ntmps39 ?_
  repeat' (first|refine aB ?_|fail)
  refine aL (σ := Unit) [0,1,5] [] (fun u => []) (fun u => []) (fun u => True) (fun u => 0) () trivial ?_
  rintro u _
  repeat' (first|refine aB ?_|fail)
  refine aP rfl ⟨?_,rfl⟩
  simp [aR,aJ]
 ·rw [Tryz.ntmps39]
  have hxl : xs.length = l.length := by have := congrArg List.length hxs;simpa using this
  iterate 1
   refine aN (awt_lift ?_)
   repeat' (first|refine aB ?_|fail)
   show cC _ _ _ _ _ _
  refine aN (aN (awt_lift ?_))
  repeat' (first|refine aB ?_|fail)
  show cC _ _ _ _ _ _
  refine eM ?_
  refine lG (σ := Nat × Int × List SX) [0] [(0,_)] [] [] (fun i => [(5,iv (i.1 : Int)),(1,iv i.2.1)]) (fun i => [(0,some (flat cT (i.2.2 ++ xs.drop i.1)))]) (fun i => eN (i.2.2 ++ xs.drop i.1)) (fun i => i.1 ≤ l.length ∧ i.2.1 = k + 4 * (aJ (l.take i.1) : Nat) ∧ i.2.2.length = i.1 ∧ i.2.2.map (·.1) = iC k (l.take i.1) ∧ i.2.2.map (·.2) = (xs.take i.1).map (·.2)) (fun i => l.length - i.1) (0,k,[]) ⟨by omega,by simp [aJ],rfl,by simp [iC],by simp⟩ (rfl) rfl rfl (by repeat' (first|exact trivial|refine And.intro rfl ?_)) (by repeat' (first|exact trivial|refine And.intro (.inr rfl) ?_)) ?_
  rintro ⟨i,z,us⟩ ⟨hi,hz,hul,hu1,hu2⟩
  dsimp only at hi hz hul hu1 hu2 ⊢
  have hol : (us ++ xs.drop i).length = l.length := by rw [List.length_append,List.length_drop]; omega
  refine aN (aN (awt_lift ?_))
  repeat' (first|refine aB ?_|fail)
  show cC _ _ _ _ _ _
  refine fY rfl (fun hb => gX ?_) (fun hb => p9 ?_)
  ·show cC _ _ _ _ _ _
   have hil : i < l.length := by have := of_decide_eq_true hb;omega
   have hdr : xs.drop i = xs[i]! :: xs.drop (i + 1) := by rw [List.drop_eq_getElem_cons (by omega),bG _ _ (by omega)]
   have hx1 : xs[i]!.1 = l[i]! := by
    have : (xs.map (·.1))[i]! = l[i]! := by rw [hxs]
    rw [bG _ _ (by simp;omega),List.getElem_map] at this
    rw [bG _ _ (by omega)]; exact this
   have hck := cZ l i hil
   have hct := eH l[i]!
   have hts := kW hil
   have hms := rN hil k
   have hcl : aJ (l.take (i + 1)) ≤ aJ l := by have := eE (l.take (i + 1)) (l.drop (i + 1));rw [List.take_append_drop] at this;omega
   have hsd := vD z l[i]!
   have hcd := fT l[i]!
   have htk : xs.take (i + 1) = xs.take i ++ [xs[i]!] := by rw [bG _ _ (by omega),List.take_succ_eq_append_getElem (by omega)]
   rw [hdr] at hol ⊢
   rw [← hx1] at hck hct hts hms hsd hcd
   generalize hrs : xs.drop (i + 1) = rs at *
   generalize xs[i]! = a at *
   obtain ⟨⟨o,x,y,n,th,el⟩,⟨y4,B4⟩,⟨y5,B5⟩⟩ := a
   have hcd : cM (.mk o x y n th el) = 1 + aJ th + aJ el := fT (.mk o x y n th el)
   have hts : aJ (l.take (i + 1)) = aJ (l.take i) + cM (.mk o x y n th el) := hts
   have hck : cM (.mk o x y n th el) ≤ aJ l := hck
   have hsd : F4 z (.mk o x y n th el) = .mk z (z + 1) (z + 2) (z + 3) (iC (z + 4) th) (iC (z + 4 + 4 * (aJ th : Nat)) el) := vD z (.mk o x y n th el)
   have m1 := ih th (z + 4) (by omega) (by omega) (by omega)
   have m2 := ih el (z + 4 + 4 * (aJ th : Nat)) (by omega) (by omega) (by omega)
   subst hul
   have hol : us.length + (rs.length + 1) = l.length := by rw [← hol]; simp
   refine aN (eM ?_)
   refine aN (awt_lift ?_)
   repeat' (first|(apply aH;(apply cO;rfl;rfl;rfl;rfl;rfl;exact oZ _ _ _ 0 (by decide);exact JG))|refine aB ?_|fail)
   show cC _ _ _ _ _ _
   refine aN (awt_lift ?_)
   repeat' (first|refine aB ?_|fail)
   show cC _ _ _ _ _ _
   refine aN (awt_lift ?_)
   repeat' (first|(apply aH;(apply cO;rfl;rfl;rfl;rfl;rfl;exact oZ _ _ _ 1 (by decide);exact J3))|refine aB ?_|fail)
   show cC _ _ _ _ _ _
   refine aN (awt_lift ?_)
   repeat' (first|refine aB ?_|fail)
   show cC _ _ _ _ _ _
   refine aN (awt_lift ?_)
   repeat' (first|(apply aH;(apply cO;rfl;rfl;rfl;rfl;rfl;exact oZ _ _ _ 2 (by decide);exact JH))|refine aB ?_|fail)
   show cC _ _ _ _ _ _
   refine aN (awt_lift ?_)
   repeat' (first|refine aB ?_|fail)
   show cC _ _ _ _ _ _
   refine aN (awt_lift ?_)
   repeat' (first|(apply aH;(apply cO;rfl;rfl;rfl;rfl;rfl;exact oZ _ _ _ 3 (by decide);exact JJ))|refine aB ?_|fail)
   show cC _ _ _ _ _ _
   refine aN (awt_lift ?_)
   repeat' (first|refine aB ?_|fail)
   show cC _ _ _ _ _ _
   have hlt : ∀ b : SX,us.length < (us ++ b :: rs).length := fun b => by simp
   rw [show z + 1 + 1 + 1 + 1 = z + 4 by omega,show z + 1 + 1 + 1 = z + 3 by omega,show z + 1 + 1 = z + 2 by omega]
   refine aN (aZ ?_)
   refine aS (l1 := [_,_,_,_,_,_]) ?_
   repeat' (first|(apply aH;(apply nP;(case hx|hH => rfl);(case hf|hg|hα => infer_instance);(case hk => exact hlt _);(case hc|hN => rfl)))|refine aO ?_|fail)
   rw [lL]
   refine ⟨rfl,?_⟩
   refine hU (eN us) [(.stms th,y4,B4)] ([(.stms el,y5,B5)] ++ eN rs) (E0' := [(.stms (iC (z + 4) th),y4,B4)]) (Bp _ _ _) rfl rfl (m1.e y4 B4) rfl rfl ?_
   refine aS (l1 := [_]) (l2 := []) ?_
   repeat' (first|refine aO ?_|fail)
   refine ⟨rfl,aK ?_⟩
   show cC _ _ _ _ _ _
   refine aZ ?_
   refine aS (l1 := [_,_,_,_,_,_]) ?_
   repeat' (first|(apply aH;(apply nP;(case hx|hH => rfl);(case hf|hg|hα => infer_instance);(case hk => exact hlt _);(case hc|hN => rfl)))|refine aO ?_|fail)
   rw [lL]
   refine ⟨rfl,?_⟩
   refine hU (eN us ++ [(.stms (iC (z + 4) th),y4,B4)]) [(.stms el,y5,B5)] (eN rs) (E0' := [(.stms (iC (z + 4 + 4 * (aJ th : Nat)) el),y5,B5)]) (by simp) rfl rfl (m2.e y5 B5) rfl rfl ?_
   refine aS (l1 := [_]) (l2 := []) ?_
   repeat' (first|refine aO ?_|fail)
   refine ⟨rfl,aK ?_⟩
   show cC _ _ _ _ _ _
   refine awt_lift ?_
   repeat' (first|refine aB ?_|fail)
   rw [It us rs _ ((F4 z (.mk o x y n th el),(y4,B4),(y5,B5)) : SX) (by rw [hsd]; rfl)]
   have hE : eN ((us ++ [((F4 z (.mk o x y n th el), (y4, B4), (y5, B5)) : SX)]) ++ rs) = eN us ++ [(.stms (iC (z + 4) th), y4, B4)] ++ ([(.stms (iC (z + 4 + 4 * (aJ th : Nat)) el), y5, B5)] ++ eN rs) := by
    rw [List.append_assoc,List.singleton_append,Bp,hsd]; simp [AL.Stmt.th,AL.Stmt.el]
   refine ⟨(us.length + 1,z + 4 + 4 * (aJ th : Nat) + 4 * (aJ el : Nat),us ++ [((F4 z (.mk o x y n th el),(y4,B4),(y5,B5)) : SX)]),⟨by dsimp only;omega,by dsimp only;omega,by simp,?_,?_⟩,by dsimp only;omega,?_,?_⟩
   ·dsimp only
    rw [List.map_append,hu1,hms,hz]; rfl
   ·dsimp only
    rw [List.map_append,hu2,htk,List.map_append]; rfl
   ·dsimp only
    rw [hrs,List.append_assoc,List.singleton_append]
    refine Le.ren [] rfl (by decide) ?_ ?_ <;> repeat' (first|exact trivial|refine And.intro ⟨_,rfl,?_⟩ ?_|refine And.intro ⟨_,_,rfl,rfl,?_⟩ ?_|exact Or.inr rfl|refine Or.inl ⟨?_,(by first|rfl|exact bD _ _)⟩|rfl)
   ·dsimp only
    rw [hrs]; exact hE
  ·have hil : i = l.length := by have := of_decide_eq_false hb; omega
   subst hil
   show cC _ _ _ _ _ _
   rw [show xs.drop l.length = [] from List.drop_of_length_le (by omega),List.append_nil]
   rw [List.take_length] at hz hu1
   refine awt_lift ?_
   repeat' (first|refine aB ?_|fail)
   refine ⟨.inl rfl,?_,us,rfl,?_,hu1,?_⟩
   ·rw [hz]; rfl
   ·rfl
   ·rw [hu2,List.take_of_length_le (by omega)]
theorem yN:∀ (m:Nat),m ≤ 1048576 → ∀ (l:List AL.Stmt) (k:Int),aJ l ≤ m → 0 ≤ k → k + 4 * (aJ l:Nat) ≤ 1000000000 → TMk Tryz.prog 39 (.stms l) (.stms (iC k l)) k (k + 4 * (aJ l:Nat)):=by
 intro m
 induction m using Nat.strongRecOn with
 | ind m ih =>
  intro hm l k hl h0 hk
  exact tM m hm (fun l' k' h1 h2 h3 => ih (aJ l') h1 (by omega) l' k' (Nat.le_refl _) h2 h3) l k hl h0 hk
theorem lV (p:Prg) (k:Int) (hl:p.types.length ≤ 1048576) (hs:aJ p.body ≤ 1048576) (hk0:0 ≤ k) (hk:k ≤ 1048576) (a4:Option Addr) (c4:Nat) (B4:List Nat) (a5:Option Addr) (c5:Nat) (B5:List Nat) :
  Kd Tryz.prog 13 [.agg [.v (.slice a4 p.types.length c4), .v (.slice a5 p.body.length c5)], iv k] [(.ints p.types, .slice a4 p.types.length c4, B4), (.stms p.body, .slice a5 p.body.length c5, B5)]
   [(.ints (oK k p.types.length),.slice a4 p.types.length c4,B4),(.stms (iC (k + p.types.length) p.body),.slice a5 p.body.length c5,B5)] (k + p.types.length + 4 * (aJ p.body : Nat)) := by
 have m1 := qW p.types k hk0 (by omega)
 have m2 := yN _ hs p.body (k + p.types.length) (Nat.le_refl _) (by omega) (by omega)
 refine zB Tryz.func13 rfl (by simp [Tryz.ntmps13]) ?_ rfl
 rw [Tryz.ntmps13]
 refine aN (awt_lift ?_)
 repeat' (first|refine aB ?_|fail)
 show cC _ _ _ _ _ _
 refine aN (aZ ?_)
 refine aS (l1 := [_,_,_]) ?_
 repeat' (first|refine aO ?_|fail)
 refine ⟨rfl,?_⟩
 refine hU [] [(.ints p.types,.slice a4 p.types.length c4,B4)] [(.stms p.body,.slice a5 p.body.length c5,B5)] (E0' := [(.ints (oK k p.types.length),.slice a4 p.types.length c4,B4)]) rfl rfl rfl (m1.e _ B4) rfl rfl ?_
 refine aS (l1 := [_]) (l2 := []) ?_
 repeat' (first|refine aO ?_|fail)
 refine ⟨rfl,aK ?_⟩
 show cC _ _ _ _ _ _
 refine aN (aZ ?_)
 refine aS (l1 := [_,_,_]) ?_
 repeat' (first|refine aO ?_|fail)
 refine ⟨rfl,?_⟩
 refine hU [(.ints (oK k p.types.length),.slice a4 p.types.length c4,B4)] [(.stms p.body,.slice a5 p.body.length c5,B5)] [] (E0' := [(.stms (iC (k + p.types.length) p.body),.slice a5 p.body.length c5,B5)]) rfl rfl rfl (m2.e _ B5) rfl rfl ?_
 refine aS (l1 := [_]) (l2 := []) ?_
 repeat' (first|refine aO ?_|fail)
 refine ⟨rfl,aK ?_⟩
 show cC _ _ _ _ _ _
 refine awt_lift ?_
 repeat' (first|refine aB ?_|fail)
 exact ⟨.inl rfl,rfl,rfl⟩
theorem Bb:∀ (l:List AL.Stmt) (k:Int) (i:Nat),i < l.length → (iC k l)[i]! = F4 (k + 4 * (aJ (l.take i):Nat)) l[i]!
 | [],_,_,h => by simp at h
 | s :: l,k,0,h => by simp [iC,aJ]
 | s :: l, k, i + 1, h => by
  have := Bb l (k + 4 * (cM s : Nat)) i (by simpa using h)
  simp only [iC,List.getElem!_cons_succ,List.take_succ_cons,aJ] at this ⊢
  rw [this,show k + 4 * ((cM s : Nat) : Int) + 4 * ((aJ (l.take i) : Nat) : Int) = k + 4 * ((cM s + aJ (l.take i) : Nat) : Int) by omega]
theorem Fo (m:Nat) (hm:m ≤ 1048576) (ih:∀ l (k:Int),aJ l < m → 0 ≤ k → k + 4 * (aJ l:Nat) ≤ 1000000000 → PC Tryz.prog 51 [sl aF (iC k l),iv k] (fun r => r = iv (k + 4 * (aJ l:Nat)))) (l:List AL.Stmt) (k:Int) (hs:aJ l ≤ m) (hk0:0 ≤ k) (hk:k + 4 * (aJ l:Nat) ≤ 1000000000) :
  PC Tryz.prog 51 [sl aF (iC k l),iv k] (fun r => r = iv (k + 4 * (aJ l : Nat))) := by
 have hlen := bE l
 have hml := AT l k
 have hg := Bb l k
 generalize iC k l = M at *
 refine aD Tryz.func51 Tryz.ntmps51 ?_
 repeat' (first|refine aB ?_|fail)
 refine aL (σ := Nat × Int) [0] [] (fun i => [(5,iv (i.1 : Int)),(1,iv i.2)]) (fun i => []) (fun i => i.1 ≤ l.length ∧ i.2 = k + 4 * (aJ (l.take i.1) : Nat)) (fun i => l.length - i.1) (0,k) ⟨by omega,by simp [aJ]⟩ ?_
 rintro ⟨i,z⟩ ⟨hi,hz⟩
 dsimp only at hi hz ⊢
 by_cases hil : i < l.length
 ·have hgi := hg i hil
  rw [← hz,vD] at hgi
  have hct := eH l[i]!
  have hck := cZ l i hil
  have hts := kW hil
  have hcd := fT l[i]!
  have hcl : aJ (l.take (i + 1)) ≤ aJ l := by have := eE (l.take (i + 1)) (l.drop (i + 1));rw [List.take_append_drop] at this;omega
  have e0 : M[i]!.op = z := by rw [hgi]; rfl
  have e1 : M[i]!.x = z + 1 := by rw [hgi]; rfl
  have e2 : M[i]!.y = z + 2 := by rw [hgi]; rfl
  have e3 : M[i]!.n = z + 3 := by rw [hgi]; rfl
  have e4 : M[i]!.th = iC (z + 4) l[i]!.th := by rw [hgi]; rfl
  have e5 : M[i]!.el = iC (z + 4 + 4 * (aJ l[i]!.th : Nat)) l[i]!.el := by rw [hgi]; rfl
  have c1 : PC Tryz.prog 51 [sl aF M[i]!.th, iv (z + 1 + 1 + 1 + 1)] (fun r => r = iv (z + 4 + 4 * (aJ l[i]!.th : Nat))) := by
   rw [e4,show z + 1 + 1 + 1 + 1 = z + 4 by omega]; exact ih _ _ (by omega) (by omega) (by omega)
  have c2 : PC Tryz.prog 51 [sl aF M[i]!.el, iv (z + 4 + 4 * (aJ l[i]!.th : Nat))] (fun r => r = iv (z + 4 + 4 * (aJ l[i]!.th : Nat) + 4 * (aJ l[i]!.el : Nat))) := by
   rw [e5]; exact ih _ _ (by omega) (by omega) (by omega)
  clear ih hg hgi
  repeat' (first|(apply aH;first|(apply aA (k := 51);rfl;exact c1;exact Pur.pf;rfl)|(apply aA (k := 51);rfl;exact c2;exact Pur.pf;rfl))|refine aB ?_|(refine aV ?_ ?_ <;> intro hc hq <;> try (exfalso;omega))|fail)
  all_goals first
   | (exfalso;omega)
   | ((refine bT (i + 1, z + 4 + 4 * (aJ l[i]!.th : Nat) + 4 * (aJ l[i]!.el : Nat)) (Le.renA []) ?_ ?_)
      ·exact ⟨by dsimp only;omega,by dsimp only;omega⟩
      ·dsimp only;omega)
 ·have hie : i = l.length := by omega
  subst hie
  repeat' (first|refine aB ?_|(refine aV ?_ ?_ <;> intro hc hq <;> try (exfalso;omega))|fail)
  refine aP rfl ⟨?_,rfl⟩
  rw [List.take_length] at hz
  simp only [aR,hz]
theorem HH (l:List AL.Stmt) (k:Int) (hs:aJ l ≤ 1048576) (hk0:0 ≤ k) (hk:k + 4 * (aJ l:Nat) ≤ 1000000000):PC Tryz.prog 51 [sl aF (iC k l),iv k] (fun r => r = iv (k + 4 * (aJ l:Nat))):=by
 have key : ∀ (m : Nat), m ≤ 1048576 → ∀ (l : List AL.Stmt) (k : Int), aJ l ≤ m → 0 ≤ k → k + 4 * (aJ l : Nat) ≤ 1000000000 → PC Tryz.prog 51 [sl aF (iC k l), iv k] (fun r => r = iv (k + 4 * (aJ l : Nat))) := by
  intro m
  induction m using Nat.strongRecOn with
  | ind m ih =>
   intro hm l k hl h0 hk
   exact Fo m hm (fun l' k' h1 h2 h3 => ih (aJ l') h1 (by omega) l' k' (Nat.le_refl _) h2 h3) l k hl h0 hk
 exact key (aJ l) hs l k (Nat.le_refl _) hk0 hk
theorem rP (n:Nat) (b:List AL.Stmt) (k:Int) (hn:n ≤ 1048577) (hs:aJ b ≤ 1048577) (hk0:0 ≤ k) (hk:k ≤ 1048576) (hs':aJ b ≤ 1048576):PC Tryz.prog 18 [bW ⟨oK k n,iC (k + n) b⟩,iv k] (fun r => r = iv (k + n + 4 * (aJ b:Nat))):=by
 have c1 := qV n k hk0 (by omega)
 have c2 := HH b (k + n) hs' (by omega) (by omega)
 refine aD Tryz.func18 Tryz.ntmps18 ?_
 repeat' (first|(apply aH;first|(apply aA (k := 15);rfl;exact c1;exact Pur.pf;rfl)|(apply aA (k := 51);rfl;exact c2;exact Pur.pf;rfl))|refine aB ?_|(refine aV ?_ ?_ <;> intro hc hq <;> try (exfalso;omega))|fail)
 all_goals first
  | (exfalso;omega)
  | exact aP rfl ⟨rfl,rfl⟩
def FI (q : Prg) (L : List Iss) : Prop := PC Tryz.prog 93 [bW q] (fun r => r = sl jD L) ∧ PC Tryz.prog 88 [bW q] (fun r => r = sl jD L) ∧ L.length ≤ 1048576
theorem FI.ex (q:Prg) (hs:aJ q.body ≤ 1048576) (hl:q.types.length ≤ 1048576) (hv:bZ q = true):∃ L,FI q L ∧ (∀ x ∈ L,0 ≤ x.point) ∧ (q.body = [] → L = []):=by
 have w := WG.of_valid hv
 obtain ⟨f⟩ := Flows.ex w
 have e : Dv q f = f.iss := if_pos hv
 refine ⟨f.iss,⟨by rw [← e]; exact Ds q f hl hs,by rw [← e]; exact DR q f hl hs,Nat.le_trans (DZ w f) (by decide)⟩,fun x hx => ?_,fun hb => BU hb f⟩
 obtain ⟨k,hk,e2⟩ := List.getElem_of_mem hx
 have h := (Jk w f).1 k hk
 rw [bG _ _ hk,e2] at h
 exact h.1
def Bi (n : Nat) : List Int := (List.range n).map (fun (i : Nat) => (i : Int))
theorem qK (n:Nat):Bi (n + 1) = Bi n ++ [(n:Int)] := by unfold Bi;rw [List.range_succ,List.map_append]; rfl
theorem uH (n:Nat):(Bi n).length = n := by simp [Bi]
theorem zA (n:Nat):Bi n = Jx n []:=by
 unfold Bi Jx;rw [List.filter_eq_self.2 (fun i _ => by simp)]
theorem Ao (p:Prg) (hv:bZ p = false) (hl:p.types.length ≤ 1048576) (hs:aJ p.body ≤ 1048576):PC Tryz.prog 17 [bW p] (fun r => r = .tup [bW ⟨[],[]⟩,sl cI []]):=by
 have hval := kN p hl (by omega)
 rw [hv] at hval
 refine aD Tryz.func17 Tryz.ntmps17 ?_
 repeat' (first|(apply aH;(apply aA (k := 45);rfl;exact hval;exact Pur.pf;rfl))|refine aB ?_|fail)
 refine bK (Le.nilImm (d := 3) rfl) ?_
 exact aP (l := [.agg [.imm 0 [],.imm 0 []],.imm 0 []]) rfl ⟨rfl,rfl⟩
theorem CK (p:Prg) (hv:bZ p = true) (hl:p.types.length ≤ 1048576) (hs:aJ p.body ≤ 1048576) (Q:Prg) (M:List Int) (hR:RepS FI p (Jx p.body.length []) [] Q M):PC Tryz.prog 17 [bW p] (fun r => r = .tup [bW Q,sl cI M]):=by
 have hval := kN p hl (by omega)
 rw [hv] at hval
 have hown := Ea p hs hl
 have hlen := bE p.body
 refine aD Tryz.func17 Tryz.ntmps17 ?_
 repeat' (first|(apply aH;first|(apply aA (k := 45);rfl;exact hval;exact Pur.pf;rfl)|(apply aA (k := 46);rfl;exact hown;exact Pur.pf;rfl)|(apply cP (d := 5) (e := 1);rfl;rfl)|(apply cP (d := 6) (e := 1);rfl;rfl))|refine aB ?_|fail)
 refine aL (σ := Nat × List Int) [2,4,6,19] [4,2,1,0] (fun k => [(20,iv (k.1 : Int)),(5,.own 3 0 k.1 1)]) (fun k => [(3,some (flat cI k.2))]) (fun k => k.1 ≤ p.body.length ∧ k.2 = Bi k.1) (fun k => p.body.length - k.1) (0,[]) ⟨Nat.zero_le _,rfl⟩ ?_
 rintro ⟨k,u⟩ ⟨hk,hu⟩
 dsimp only at hk hu
 try dsimp only
 have hrn := uH k
 rw [← hu] at hrn
 have hrs := qK k
 by_cases hkn : k < p.body.length
 ·repeat' (first | (apply aH; (apply aW (t := _);rfl;rfl;rfl;exact (rfl:_=some [_]);rfl;rfl)) | refine aB ?_ | (refine aV ?_ ?_ <;> intro hc hq <;> try (exfalso; omega))|fail)
  (refine bT (k + 1,_) (Le.renA [(0,0),(1,1),(2,2),(4,4),(3,6)]) ?_ ?_)
  ·exact ⟨hkn,by dsimp only;rw [hrs,hu]⟩
  ·show p.body.length - (k + 1) < p.body.length - k;omega
 ·obtain rfl : k = p.body.length := by omega
  subst hu
  repeat' (first|refine aB ?_|(refine aV ?_ ?_ <;> intro hc hq <;> try (exfalso;omega))|fail)
  refine aL (σ := List AL.Stmt × List Int × List Int × Nat × Nat) [2,4] [1,0] (fun s => [(5,.own 3 0 s.2.2.2.1 1),(6,.own 4 0 s.2.2.2.2 1)]) (fun s => [(2,some [sl cI p.types,sl aF s.1]),(3,some (flat cI s.2.1)),(4,some (flat cI s.2.2.1))]) (fun s => RepS FI ⟨p.types,s.1⟩ s.2.1 s.2.2.1 Q M ∧ s.2.1.length = s.1.length ∧ bZ ⟨p.types,s.1⟩ = true ∧ aJ s.1 ≤ aJ p.body ∧ s.2.2.2.1 = s.2.1.length ∧ s.2.2.2.2 = s.2.2.1.length ∧ s.2.2.1.length + s.1.length = p.body.length) (fun s => s.1.length) (p.body,Bi p.body.length,[],p.body.length,0) ⟨by rw [zA]; exact hR,hrn,hv,Nat.le_refl _,hrn.symm,rfl,Nat.zero_add _⟩ ?_
  rintro ⟨b,l,m,ln,mn⟩ ⟨hR1,h1,h2,h3,h4,h5,h6⟩
  dsimp only at hR1 h1 h2 h3 h4 h5 h6
  try dsimp only
  rcases hR1.inv with ⟨hF,rfl,rfl⟩ | ⟨x,L,k,hF,hk,hr⟩
  ·have hfi := lJ ⟨p.types, b⟩ [] hF.1
   repeat' (first|(apply aH;(apply aA (k := 47);rfl;exact hfi;exact Pur.pf;rfl))|refine aB ?_|fail)
   refine bK (Le.frzD (d := 3) (i := 4) rfl rfl) ?_
   refine aP (l := [.agg [sl cI p.types,sl aF b],.imm mn (flat cI M)]) rfl ⟨?_,(by exact Pur.pf)⟩
   simp only [aR,sl,h5]
  ·have hfi : PC Tryz.prog 47 [bW ⟨p.types, b⟩] (fun r => r = .tup [CP x, bv true]) := lJ ⟨p.types, b⟩ (x :: L) hF.1
   have hkl := hk.lt
   dsimp only at hkl
   have hx0 : 0 ≤ x.point := by have := hk.lo;omega
   have hbl := bE b
   repeat' (first|(apply aH;(apply aA (k := 47);rfl;exact hfi;exact Pur.pf;rfl))|refine aB ?_|fail)
   refine aL (σ := Nat) [2,4,5,6,8] [5,4,3,2,1,0] (fun j => [(10,iv (j : Int))]) (fun j => []) (fun j => j < b.length ∧ (cD (b.take j) : Int) ≤ x.point) (fun j => b.length - j) (0) ⟨by omega,by simpa [cD] using hx0⟩ ?_
   intro j ⟨hj,hjx⟩
   have hdr : PC Tryz.prog 50 [bW ⟨p.types,b⟩,iv (j : Int)] (fun r => r = .agg [sl cI p.types,sl aF (bI j b)]) := tC ⟨p.types,b⟩ j hj (by show aJ b ≤ _; omega) hl
   by_cases hjn : j + 1 < b.length
   ·have hfp : PC Tryz.prog 48 [bW ⟨p.types, b⟩, iv ((j : Int) + 1)] (fun r => r = iv (cD (b.take (j + 1)) : Int)) := nC ⟨p.types, b⟩ (j + 1) (by show j + 1 ≤ b.length; omega) (by show aJ b ≤ _; omega)
    repeat' (first|(apply aH;first|(apply aA (k := 48);rfl;exact hfp;exact Pur.pf;rfl)|(apply aA (k := 50);rfl;exact hdr;exact Pur.pf;rfl)|(apply o7;rfl;rfl;rfl;(rfl);(apply uD <;> (first|assumption|omega));rfl;rfl))|refine aB ?_|(refine aV ?_ ?_ <;> intro hc hq <;> try (exfalso;omega))|(refine dB ?_ ?_ <;> intro hg hq <;> try (exfalso;omega))|refine dH ?_|fail)
    ·(refine bT (j + 1) (Le.renA [(0, 0), (1, 1), (2, 2), (3, 3), (4, 4), (5, 5)]) ?_ ?_)
     ·exact ⟨hjn,by assumption⟩
     ·omega
    ·have e : j = k := AtS.uniq ⟨hj, hjx, fun _ => by assumption⟩ hk
     subst e
     (refine bT (bI j b,bI j l,m ++ [l[j]!],ln - 1,mn + 1) (Le.renA [(0,0),(1,1),(2,2),(3,3),(4,7)]) ?_ ?_)
     ·have d1 := bR (k := j) (xs := b) hj
      have d2 := bR (k := j) (xs := l) (by omega)
      have d3 := eX b j
      exact ⟨hr,by dsimp only;omega,c9 h2,by dsimp only;omega,by dsimp only;omega,by simp [h5],by simp;omega⟩
     ·have d1 := bR (k := j) (xs := b) hj
      dsimp only;omega
   ·repeat' (first | (apply aH; first | (apply aA (k := 50);rfl;exact hdr;exact Pur.pf;rfl) | (apply o7;rfl;rfl;rfl;(rfl);(apply uD <;> (first | assumption | omega));rfl;rfl)) | refine aB ?_ | (refine dB ?_ ?_ <;> intro hg hq <;> try (exfalso; omega)) | refine dH ?_|fail)
    have e : j = k := AtS.uniq ⟨hj,hjx,fun h => absurd h hjn⟩ hk
    subst e
    (refine bT (bI j b,bI j l,m ++ [l[j]!],ln - 1,mn + 1) (Le.renA [(0,0),(1,1),(2,2),(3,3),(4,7)]) ?_ ?_)
    ·have d1 := bR (k := j) (xs := b) hj
     have d2 := bR (k := j) (xs := l) (by omega)
     have d3 := eX b j
     exact ⟨hr,by dsimp only;omega,c9 h2,by dsimp only;omega,by dsimp only;omega,by simp [h5],by simp;omega⟩
    ·have d1 := bR (k := j) (xs := b) hj
     dsimp only;omega
theorem CR (b:List AL.Stmt) (k:Nat) (hk:k < b.length):cD ((b.drop k).take 1) = mO b[k]!:=by
 have : (b.drop k).take 1 = [b[k]!] := by
  rw [List.drop_eq_getElem_cons hk,bG _ _ hk]; rfl
 rw [this]; simp [cD]
theorem EX (q:Prg) (x:Int) (k:Nat) (hk:AtS q.body x k) (hs:aJ q.body ≤ 1048576):PC Tryz.prog 43 [bW q,iv x] (fun r => r = iv (k:Int)):=by
 have hlen := bE q.body
 have hnp := iT q.body
 have hlt := hk.lt
 refine aD Tryz.func43 Tryz.ntmps43 ?_
 repeat' (first|refine aB ?_|fail)
 refine aL (σ := Nat × Int) [1,2] [0] (fun s => [(6,iv (s.1 : Int)),(5,iv s.2)]) (fun s => []) (fun s => s.1 ≤ q.body.length ∧ s.2 = (cD (q.body.take s.1) : Int) ∧ s.2 ≤ x) (fun s => q.body.length - s.1) (0,0) ⟨Nat.zero_le _,by simp [cD],by have := hk.lo;show (0 : Int) ≤ x;omega⟩ ?_
 rintro ⟨j,nn⟩ ⟨hj,hnn,hjx⟩
 dsimp only at hj hnn hjx
 try dsimp only
 have e1 : (((j : Int) + 1).toNat - (j : Int).toNat) = 1 := by omega
 have hc := cZ q.body j
 by_cases hjn : j < q.body.length
 ·have hd := CR q.body j hjn
  have ht := eJ q.body j hjn
  have hle := j8 q.body (j + 1)
  have hcl : List.take (((j : Int) + 1).toNat - (j : Int).toNat) (List.drop (j : Int).toNat q.body) = (q.body.drop j).take 1 := by rw [e1,Int.toNat_natCast]
  have hcd : aJ ((q.body.drop j).take 1) ≤ aJ q.body := by
   have h1 := eE (q.body.take j) (q.body.drop j)
   have h2 := eE ((q.body.drop j).take 1) ((q.body.drop j).drop 1)
   rw [List.take_append_drop] at h1 h2
   omega
  repeat' (first|(apply aH;(with_reducible apply dX (d := 22)))|refine aB ?_|(refine aV ?_ ?_ <;> intro hc hq <;> try (exfalso;omega))|fail)
  refine iK ?_
  rw [hcl]
  repeat' (first|(apply aH;(apply qP;rfl;rfl;(exact sH rfl);(apply By <;> (first|omega|(simp only [jY] <;> omega)));rfl;rfl))|refine aB ?_|(refine aV ?_ ?_ <;> intro hc hq <;> try (exfalso;omega))|fail)
  ·refine aP rfl ⟨?_, rfl⟩
   have e : j = k := AtS.uniq ⟨hjn,by omega,fun _ => by rw [ht,← hd]; omega⟩ hk
   simp only [aR]; rw [e]
  ·(refine bT (j + 1, _) (Le.renA [(0, 0)]) ?_ ?_)
   ·exact ⟨hjn,by dsimp only;rw [ht,← hd,hnn]; omega,by dsimp only;omega⟩
   ·dsimp only;omega
 ·repeat' (first | refine aB ?_ | (refine aV ?_ ?_ <;> intro hc hq <;> try (exfalso; omega))|fail)
  refine aP rfl ⟨?_,rfl⟩
  have hjj : j = q.body.length := by omega
  subst hjj
  by_cases h : k + 1 < q.body.length
  ·exfalso
   have h1 := xW q.body (i := k + 1) (j := q.body.length) (by omega)
   have h2 := hk.hi h
   omega
  ·simp only [aR]
   rw [show (q.body.length : Int) - 1 = (k : Int) by omega]
theorem G3 (q:Prg) (k:Nat) (hv:bZ q = true) (hk:k < q.body.length) (hs:aJ q.body ≤ 1048576) (ht:q.types.length ≤ 1048576):PC Tryz.prog 44 [bW q,iv (k:Int)] (fun r => r = .tup [bW (kD q k),bv true]):=by
 have hlen := bE q.body
 have hval := kL q ht (by omega)
 rw [hv] at hval
 refine aD Tryz.func44 Tryz.ntmps44 ?_
 repeat' (first|(apply aH;first|(apply aA (k := 40);rfl;exact hval;exact Pur.pf;rfl)|(apply fS (d := 27) (l := 0) (h := k);rfl;rfl;rfl;exact cJ rfl rfl;exact if_pos (by omega);rfl)|(apply fS (d := 32) (l := k + 1) (h := q.body.length);rfl;rfl;exact cJ rfl (by omega);rfl;exact if_pos (by omega);rfl)|(apply dU (d := 33);rfl;rfl;rfl;rfl;rfl;(rw [aI aF (e := 6)]; omega);exact mX rfl rfl;omega;omega;exact GP (k := k) (by omega);rfl;rfl)|(apply sK;rfl;(apply wX <;> (assumption));rfl;rfl))|refine aB ?_|(refine aV ?_ ?_ <;> intro hc hq <;> try (exfalso;omega))|refine dH ?_|fail)
 refine bK (Le.frzC (j := 1) (i := 5) [] rfl rfl (by decide)) ?_
 refine bK (Le.frzC (j := 1) (i := 8) [.imm _ _] rfl rfl (by decide)) ?_
 have e : AV.agg [sl cI q.types, .imm (k - 0 + (q.body.length - (k + 1))) (flat aF (bI k q.body))] = bW (kD q k) := by
  have := bR hk
  unfold kD
  dsimp only [bW]
  unfold sl
  rw [show (bI k q.body).length = k - 0 + (q.body.length - (k + 1)) by omega]
 rw [← e]
 exact aP (l := [AV.agg [sl cI q.types,.imm (k - 0 + (q.body.length - (k + 1))) (flat aF (bI k q.body))],bv true]) rfl ⟨rfl,by rw [e]; exact Pur.pf⟩
theorem Aw (p:Prg) (hv:bZ p = false) (hl:p.types.length ≤ 1048576) (hs:aJ p.body ≤ 1048576):PC Tryz.prog 16 [bW p] (fun r => r = .tup [bW ⟨[],[]⟩,sl cI []]):=by
 have hval := kL p hl (by omega)
 rw [hv] at hval
 refine aD Tryz.func16 Tryz.ntmps16 ?_
 repeat' (first|(apply aH;first|(apply aA (k := 40);rfl;exact hval;exact Pur.pf;rfl)|(apply aW (t := _);rfl;rfl;rfl;(rfl);rfl;rfl))|refine aB ?_|fail)
 exact aP (l := [.agg [.imm 0 [],.imm 0 []],.imm 0 []]) rfl ⟨rfl,rfl⟩
theorem BQ (p:Prg) (hv:bZ p = true) (hl:p.types.length ≤ 1048576) (hs:aJ p.body ≤ 1048576) (Q:Prg) (M:List Int) (hR:RepS FI p (Jx p.body.length []) [] Q M):PC Tryz.prog 16 [bW p] (fun r => r = .tup [bW Q,sl cI M]):=by
 have hval := kL p hl (by omega)
 rw [hv] at hval
 have hlen := bE p.body
 refine aD Tryz.func16 Tryz.ntmps16 ?_
 repeat' (first|(apply aH;(apply aA (k := 40);rfl;exact hval;exact Pur.pf;rfl))|refine aB ?_|fail)
 refine aL (σ := Nat × List Int) [1,2,4] [2,1,0] (fun k => [(6,iv (k.1 : Int)),(5,.own 3 0 k.1 1)]) (fun k => [(3,some (flat cI k.2))]) (fun k => k.1 ≤ p.body.length ∧ k.2 = Bi k.1) (fun k => p.body.length - k.1) (0,[]) ⟨Nat.zero_le _,rfl⟩ ?_
 rintro ⟨k,u⟩ ⟨hk,hu⟩
 dsimp only at hk hu
 try dsimp only
 have hrn := uH k
 rw [← hu] at hrn
 have hrs := qK k
 by_cases hkn : k < p.body.length
 ·repeat' (first | (apply aH; (apply aW (t := _);rfl;rfl;rfl;exact (rfl:_=some [_]);rfl;rfl)) | refine aB ?_ | (refine aV ?_ ?_ <;> intro hc hq <;> try (exfalso; omega))|fail)
  (refine bT (k + 1,_) (Le.renA [(0,0),(1,1),(2,2),(3,5)]) ?_ ?_)
  ·exact ⟨hkn,by dsimp only;rw [hrs,hu]⟩
  ·show p.body.length - (k + 1) < p.body.length - k;omega
 ·obtain rfl : k = p.body.length := by omega
  subst hu
  repeat' (first|(apply aH;(apply sK;rfl;(apply wX <;> (assumption));rfl;rfl))|refine aB ?_|(refine aV ?_ ?_ <;> intro hc hq <;> try (exfalso;omega))|fail)
  apply AW.le
  case k => exact Le.frzC (j := 9) (i := 7) [] rfl rfl (by decide)
  apply AW.le
  case k => exact Le.frzC (j := 9) (i := 8) [.imm _ _] rfl rfl (by decide)
  refine aL (σ := List AL.Stmt × List Int × List Int × Nat × Nat) [2,7] [1,0] (fun s => [(5,.own 3 0 s.2.2.2.1 1),(4,.own 2 0 s.2.2.2.2 1)]) (fun s => [(9,some [sl cI p.types,sl aF s.1]),(3,some (flat cI s.2.1)),(2,some (flat cI s.2.2.1))]) (fun s => RepS FI ⟨p.types,s.1⟩ s.2.1 s.2.2.1 Q M ∧ s.2.1.length = s.1.length ∧ bZ ⟨p.types,s.1⟩ = true ∧ aJ s.1 ≤ aJ p.body ∧ s.2.2.2.1 = s.2.1.length ∧ s.2.2.2.2 = s.2.2.1.length ∧ s.2.2.1.length + s.1.length = p.body.length) (fun s => s.1.length) (p.body,Bi p.body.length,[],p.body.length,0) ⟨by rw [zA]; exact hR,hrn,hv,Nat.le_refl _,hrn.symm,rfl,Nat.zero_add _⟩ ?_
  rintro ⟨b,l,m,ln,mn⟩ ⟨hR1,h1,h2,h3,h4,h5,h6⟩
  dsimp only at hR1 h1 h2 h3 h4 h5 h6
  try dsimp only
  rcases hR1.inv with ⟨hF,rfl,rfl⟩ | ⟨x,L,k,hF,hk,hr⟩
  ·have hfi := r9 ⟨p.types, b⟩ [] hF.2.1
   repeat' (first|(apply aH;(apply aA (k := 42);rfl;exact hfi;exact Pur.pf;rfl))|refine aB ?_|fail)
   refine bK (Le.frzD (d := 3) (i := 2) rfl rfl) ?_
   refine aP (l := [.agg [sl cI p.types,sl aF b],.imm mn (flat cI M)]) rfl ⟨?_,(by exact Pur.pf)⟩
   simp only [aR,sl,h5]
  ·have hfi : PC Tryz.prog 42 [bW ⟨p.types, b⟩] (fun r => r = .tup [CP x, bv true]) := r9 ⟨p.types, b⟩ (x :: L) hF.2.1
   have hkl := hk.lt
   dsimp only at hkl
   have hbl := bE b
   have h5s := EX ⟨p.types,b⟩ x.point k hk (by show aJ b ≤ _; omega)
   have hdr : PC Tryz.prog 44 [bW ⟨p.types,b⟩,iv (k : Int)] (fun r => r = .tup [.agg [sl cI p.types,sl aF (bI k b)],bv true]) := G3 ⟨p.types,b⟩ k h2 hkl (by show aJ b ≤ _; omega) hl
   repeat' (first|(apply aH;first|(apply aA (k := 42);rfl;exact hfi;exact Pur.pf;rfl)|(apply aA (k := 43);rfl;exact h5s;exact Pur.pf;rfl)|(apply aA (k := 44);rfl;exact hdr;exact Pur.pf;rfl)|(apply fS (d := 63) (l := 0) (h := k);rfl;rfl;rfl;exact cJ rfl rfl;exact if_pos (by omega);rfl)|(apply fS (d := 68) (l := k + 1) (h := ln);rfl;rfl;exact cJ rfl (by omega);rfl;exact if_pos (by omega);rfl)|(apply dU (d := 64);rfl;rfl;rfl;rfl;rfl;decide;exact Hc rfl (by omega);omega;omega;exact (rfl:_=flat cI (l.take k));rfl;rfl)|(apply dU (d := 69);rfl;rfl;rfl;rfl;rfl;(rw [aI cI (e := 1),List.length_take]; omega);exact mX (k := k + 1) rfl (by omega);omega;omega;exact Ed (k := k) (by omega) (by omega);rfl;rfl))|refine aB ?_|refine dH ?_|fail)
   have d1 := bR (k := k) (xs := b) hkl
   have d2 := bR (k := k) (xs := l) (by omega)
   have d3 := eX b k
   (refine bT (bI k b,bI k l,m ++ [l[k]!],0 + (k - 0) + (ln - (k + 1)),mn + 1) (Le.renA [(0,0),(1,1),(2,13),(3,16),(9,9)]) ?_ ?_)
   ·exact ⟨hr,by dsimp only;omega,c9 h2,by dsimp only;omega,by dsimp only;omega,by simp [h5],by simp;omega⟩
   ·dsimp only;omega
theorem E9 (xs:List Int) (hl:xs.length ≤ 1048576):oW Tryz.prog 91 [sl cI xs] (fun r E => ∃ a c B,r = .v (.slice a xs.length c) ∧ E = [(.ints xs,.slice a xs.length c,B)]):=by
 (refine cS Tryz.func91 rfl (by simp [Tryz.ntmps91]) ?_; rw [Tryz.ntmps91])
 refine awt_lift ?_
 repeat' (first|(apply aH;(apply vN;rfl;rfl;(intro b hb)))|refine aB ?_|(refine aV ?_ ?_ <;> intro hc hq <;> try (exfalso;omega))|fail)
 ·have h0 : xs = [] := List.eq_nil_of_length_eq_zero (hb (by assumption))
  subst h0
  exact G0 rfl rfl rfl ⟨none,0,[],rfl,rfl⟩
 ·exact Ba (L := xs) rfl rfl rfl (Nat.zero_add _) (fun a c B => ⟨a,c,B,rfl,rfl⟩)
theorem HQ (mm:Nat) (hmm:mm ≤ 1048576) (ih:∀ l,aJ l < mm → oW Tryz.prog 92 [sl aF l] (fun r E => ∃ a c B,r = .v (.slice a l.length c) ∧ E = [(.stms l,.slice a l.length c,B)])) (l:List AL.Stmt) (hs:aJ l ≤ mm):oW Tryz.prog 92 [sl aF l] (fun r E => ∃ a c B,r = .v (.slice a l.length c) ∧ E = [(.stms l,.slice a l.length c,B)]):=by
 have hlen := bE l
 (refine cS Tryz.func92 rfl (by simp [Tryz.ntmps92]) ?_; rw [Tryz.ntmps92])
 refine aN (awt_lift ?_)
 repeat' (first|refine aB ?_|fail)
 show cC _ _ _ _ _ _
 refine aN (awt_lift ?_)
 repeat' (first|(apply aH;(apply cP (d := 3) (e := 6);rfl;rfl))|refine aB ?_|fail)
 show cC _ _ _ _ _ _
 refine aN (aN (awt_lift ?_))
 repeat' (first|refine aB ?_|fail)
 show cC _ _ _ _ _ _
 refine eM ?_
 refine lG (σ := Nat × List SX) [6,7] [(6,_),(7,_)] [] [] (fun k => [(8,iv (k.1 : Int)),(3,.own 0 0 k.1 6)]) (fun k => [(0,some (flat cT k.2))]) (fun k => eN k.2) (fun k => k.1 ≤ l.length ∧ k.2.length = k.1 ∧ k.2.map (·.1) = l.take k.1) (fun k => l.length - k.1) (0,[]) ⟨by omega,rfl,rfl⟩ (rfl) rfl rfl (by repeat' (first|exact trivial|refine And.intro rfl ?_)) (by repeat' (first|exact trivial|refine And.intro (.inr rfl) ?_)) ?_
 rintro ⟨k,u⟩ ⟨hk,hul,hu⟩
 dsimp only at hk hul hu ⊢
 refine aN (awt_lift ?_)
 repeat' (first|refine aB ?_|fail)
 show cC _ _ _ _ _ _
 refine aN (fY rfl (fun hb => gX ?_) (fun hb => p9 ?_))
 ·show cC _ _ _ _ _ _
  have hkl : k < l.length := by have := of_decide_eq_true hb;omega
  have hck := cZ l k hkl
  have hct := eH l[k]!
  have c1 := ih l[k]!.th (by omega)
  have c2 := ih l[k]!.el (by omega)
  refine aN (eM ?_)
  refine aN (awt_lift ?_)
  repeat' (first|refine aB ?_|fail)
  show cC _ _ _ _ _ _
  refine mP (σ := (Option Addr × Nat × List Nat) × (Option Addr × Nat × List Nat)) [3,5,6,7,8] [(3,_),(5,_),(6,_),(7,_),(8,_)] [0] [(0,some _)] 2 (fun y => []) (fun y => [(1,some [iv l[k]!.op,iv l[k]!.x,iv l[k]!.y,iv l[k]!.n,.v (.slice y.1.1 l[k]!.th.length y.1.2.1),.v (.slice y.2.1 l[k]!.el.length y.2.2.1)])]) (fun y => eN (u ++ [(l[k]!,(.slice y.1.1 l[k]!.th.length y.1.2.1,y.1.2.2),(.slice y.2.1 l[k]!.el.length y.2.2.1,y.2.2.2))])) rfl rfl (tW (by kernel_rfl) ?_) ?_
  ·refine jW (i := 0) (i' := 3) (o := ⟨_, _, _, _, _, _⟩) (o' := ⟨_, _, _, _, _, _⟩) (by kernel_rfl) rfl rfl ?_ ?_
   ·repeat' (first|refine aO ?_|fail)
    refine ⟨rfl,?_⟩
    refine jW (i := 1) (i' := 3) (o := ⟨_,_,_,_,_,_⟩) (o' := ⟨_,_,_,_,_,_⟩) (by kernel_rfl) rfl rfl ?_ ?_
    ·repeat' (first|refine aO ?_|fail)
     refine ⟨rfl,?_⟩
     refine jM (i := 2) (i' := 3) (o := ⟨_,_,_,_,_,_⟩) (o' := ⟨_,_,_,_,_,_⟩) (by kernel_rfl) rfl rfl ?_ ?_
     ·refine aM rfl (.cons (.pur PurV.pf) .nil) c1 rfl ?_
      rintro _ _ ⟨a4,d4,B4,rfl,rfl⟩
      refine aK ⟨rfl,?_⟩
      refine aT (i := 3) (o := ⟨_,_,_,_,_,_⟩) (by kernel_rfl) rfl ?_
      repeat' (first|refine aO ?_|fail)
      refine ⟨rfl,?_⟩
      refine aT (i := 4) (o := ⟨_,_,_,_,_,_⟩) (by kernel_rfl) rfl ?_
      repeat' (first|refine aO ?_|fail)
      refine ⟨rfl,?_⟩
      refine jM (i := 5) (i' := 6) (o := ⟨_,_,_,_,_,_⟩) (o' := ⟨_,_,_,_,_,_⟩) (by kernel_rfl) rfl rfl ?_ ?_
      ·refine aM rfl (.cons (.pur PurV.pf) .nil) c2 rfl ?_
       rintro _ _ ⟨a5,d5,B5,rfl,rfl⟩
       refine aK ⟨rfl,?_⟩
       refine aT (i := 6) (o := ⟨_,_,_,_,_,_⟩) (by kernel_rfl) rfl ?_
       repeat' (first|refine aO ?_|fail)
       refine ⟨rfl,?_⟩
       refine aT (i := 7) (o := ⟨_,_,_,_,_,_⟩) (by kernel_rfl) rfl ?_
       repeat' (first|refine aO ?_|fail)
       refine ⟨rfl,?_⟩
       refine aT (i := 8) (o := ⟨_,_,_,_,_,_⟩) (by kernel_rfl) rfl ?_
       repeat' (first|refine aO ?_|fail)
       refine ⟨rfl,?_⟩
       refine aT (i := 9) (o := ⟨_,_,_,_,_,_⟩) (by kernel_rfl) rfl ?_
       repeat' (first|refine aO ?_|fail)
       refine ⟨rfl,?_⟩
       refine eR ⟨((a4,d4,B4),(a5,d5,B5)),kM,?_⟩ (by kernel_rfl)
       rw [b8]; simp
      ·refine cX ?_
       repeat' (first|refine aO ?_|fail)
       refine ⟨rfl,aK ⟨rfl,?_⟩⟩
       refine dY (i := 5) (o := ⟨_,_,_,_,_,_⟩) (by kernel_rfl) rfl ?_
       refine aM rfl (.cons (.pur PurV.pf) .nil) c2 rfl ?_
       rintro _ _ ⟨a5,d5,B5,rfl,rfl⟩
       refine aK ⟨rfl,?_⟩
       refine aT (i := 7) (o := ⟨_,_,_,_,_,_⟩) (by kernel_rfl) rfl ?_
       repeat' (first|refine aO ?_|fail)
       refine ⟨rfl,?_⟩
       refine aT (i := 8) (o := ⟨_,_,_,_,_,_⟩) (by kernel_rfl) rfl ?_
       repeat' (first|refine aO ?_|fail)
       refine ⟨rfl,?_⟩
       refine aT (i := 9) (o := ⟨_,_,_,_,_,_⟩) (by kernel_rfl) rfl ?_
       repeat' (first|refine aO ?_|fail)
       refine ⟨rfl,?_⟩
       refine eR ⟨((a4,d4,B4),(a5,d5,B5)),kM,?_⟩ (by kernel_rfl)
       rw [b8]; simp
     ·refine cX ?_
      repeat' (first|refine aO ?_|fail)
      refine ⟨rfl,aK ⟨rfl,?_⟩⟩
      refine jM (i := 2) (i' := 4) (o := ⟨_,_,_,_,_,_⟩) (o' := ⟨_,_,_,_,_,_⟩) (by kernel_rfl) rfl rfl ?_ ?_
      ·refine aM rfl (.cons (.pur PurV.pf) .nil) c1 rfl ?_
       rintro _ _ ⟨a4,d4,B4,rfl,rfl⟩
       refine aK ⟨rfl,?_⟩
       refine aT (i := 4) (o := ⟨_,_,_,_,_,_⟩) (by kernel_rfl) rfl ?_
       repeat' (first|refine aO ?_|fail)
       refine ⟨rfl,?_⟩
       refine jM (i := 5) (i' := 6) (o := ⟨_,_,_,_,_,_⟩) (o' := ⟨_,_,_,_,_,_⟩) (by kernel_rfl) rfl rfl ?_ ?_
       ·refine aM rfl (.cons (.pur PurV.pf) .nil) c2 rfl ?_
        rintro _ _ ⟨a5,d5,B5,rfl,rfl⟩
        refine aK ⟨rfl,?_⟩
        refine aT (i := 6) (o := ⟨_,_,_,_,_,_⟩) (by kernel_rfl) rfl ?_
        repeat' (first|refine aO ?_|fail)
        refine ⟨rfl,?_⟩
        refine aT (i := 7) (o := ⟨_,_,_,_,_,_⟩) (by kernel_rfl) rfl ?_
        repeat' (first|refine aO ?_|fail)
        refine ⟨rfl,?_⟩
        refine aT (i := 8) (o := ⟨_,_,_,_,_,_⟩) (by kernel_rfl) rfl ?_
        repeat' (first|refine aO ?_|fail)
        refine ⟨rfl,?_⟩
        refine aT (i := 9) (o := ⟨_,_,_,_,_,_⟩) (by kernel_rfl) rfl ?_
        repeat' (first|refine aO ?_|fail)
        refine ⟨rfl,?_⟩
        refine eR ⟨((a4,d4,B4),(a5,d5,B5)),kM,?_⟩ (by kernel_rfl)
        rw [b8]; simp
       ·refine cX ?_
        repeat' (first|refine aO ?_|fail)
        refine ⟨rfl,aK ⟨rfl,?_⟩⟩
        refine dY (i := 5) (o := ⟨_,_,_,_,_,_⟩) (by kernel_rfl) rfl ?_
        refine aM rfl (.cons (.pur PurV.pf) .nil) c2 rfl ?_
        rintro _ _ ⟨a5,d5,B5,rfl,rfl⟩
        refine aK ⟨rfl,?_⟩
        refine aT (i := 7) (o := ⟨_,_,_,_,_,_⟩) (by kernel_rfl) rfl ?_
        repeat' (first|refine aO ?_|fail)
        refine ⟨rfl,?_⟩
        refine aT (i := 8) (o := ⟨_,_,_,_,_,_⟩) (by kernel_rfl) rfl ?_
        repeat' (first|refine aO ?_|fail)
        refine ⟨rfl,?_⟩
        refine aT (i := 9) (o := ⟨_,_,_,_,_,_⟩) (by kernel_rfl) rfl ?_
        repeat' (first|refine aO ?_|fail)
        refine ⟨rfl,?_⟩
        refine eR ⟨((a4,d4,B4),(a5,d5,B5)),kM,?_⟩ (by kernel_rfl)
        rw [b8]; simp
      ·refine cX ?_
       repeat' (first|refine aO ?_|fail)
       refine ⟨rfl,aK ⟨rfl,?_⟩⟩
       refine dY (i := 2) (o := ⟨_,_,_,_,_,_⟩) (by kernel_rfl) rfl ?_
       refine aM rfl (.cons (.pur PurV.pf) .nil) c1 rfl ?_
       rintro _ _ ⟨a4,d4,B4,rfl,rfl⟩
       refine aK ⟨rfl,?_⟩
       refine jM (i := 5) (i' := 6) (o := ⟨_,_,_,_,_,_⟩) (o' := ⟨_,_,_,_,_,_⟩) (by kernel_rfl) rfl rfl ?_ ?_
       ·refine aM rfl (.cons (.pur PurV.pf) .nil) c2 rfl ?_
        rintro _ _ ⟨a5,d5,B5,rfl,rfl⟩
        refine aK ⟨rfl,?_⟩
        refine aT (i := 6) (o := ⟨_,_,_,_,_,_⟩) (by kernel_rfl) rfl ?_
        repeat' (first|refine aO ?_|fail)
        refine ⟨rfl,?_⟩
        refine aT (i := 7) (o := ⟨_,_,_,_,_,_⟩) (by kernel_rfl) rfl ?_
        repeat' (first|refine aO ?_|fail)
        refine ⟨rfl,?_⟩
        refine aT (i := 8) (o := ⟨_,_,_,_,_,_⟩) (by kernel_rfl) rfl ?_
        repeat' (first|refine aO ?_|fail)
        refine ⟨rfl,?_⟩
        refine aT (i := 9) (o := ⟨_,_,_,_,_,_⟩) (by kernel_rfl) rfl ?_
        repeat' (first|refine aO ?_|fail)
        refine ⟨rfl,?_⟩
        refine eR ⟨((a4,d4,B4),(a5,d5,B5)),kM,?_⟩ (by kernel_rfl)
        rw [b8]; simp
       ·refine cX ?_
        repeat' (first|refine aO ?_|fail)
        refine ⟨rfl,aK ⟨rfl,?_⟩⟩
        refine dY (i := 5) (o := ⟨_,_,_,_,_,_⟩) (by kernel_rfl) rfl ?_
        refine aM rfl (.cons (.pur PurV.pf) .nil) c2 rfl ?_
        rintro _ _ ⟨a5,d5,B5,rfl,rfl⟩
        refine aK ⟨rfl,?_⟩
        refine aT (i := 7) (o := ⟨_,_,_,_,_,_⟩) (by kernel_rfl) rfl ?_
        repeat' (first|refine aO ?_|fail)
        refine ⟨rfl,?_⟩
        refine aT (i := 8) (o := ⟨_,_,_,_,_,_⟩) (by kernel_rfl) rfl ?_
        repeat' (first|refine aO ?_|fail)
        refine ⟨rfl,?_⟩
        refine aT (i := 9) (o := ⟨_,_,_,_,_,_⟩) (by kernel_rfl) rfl ?_
        repeat' (first|refine aO ?_|fail)
        refine ⟨rfl,?_⟩
        refine eR ⟨((a4,d4,B4),(a5,d5,B5)),kM,?_⟩ (by kernel_rfl)
        rw [b8]; simp
    ·repeat' (first|refine aO ?_|fail)
     refine ⟨rfl,?_⟩
     refine jW (i := 1) (i' := 4) (o := ⟨_,_,_,_,_,_⟩) (o' := ⟨_,_,_,_,_,_⟩) (by kernel_rfl) rfl rfl ?_ ?_
     ·repeat' (first|refine aO ?_|fail)
      refine ⟨rfl,?_⟩
      refine jM (i := 2) (i' := 4) (o := ⟨_,_,_,_,_,_⟩) (o' := ⟨_,_,_,_,_,_⟩) (by kernel_rfl) rfl rfl ?_ ?_
      ·refine aM rfl (.cons (.pur PurV.pf) .nil) c1 rfl ?_
       rintro _ _ ⟨a4,d4,B4,rfl,rfl⟩
       refine aK ⟨rfl,?_⟩
       refine aT (i := 4) (o := ⟨_,_,_,_,_,_⟩) (by kernel_rfl) rfl ?_
       repeat' (first|refine aO ?_|fail)
       refine ⟨rfl,?_⟩
       refine jM (i := 5) (i' := 6) (o := ⟨_,_,_,_,_,_⟩) (o' := ⟨_,_,_,_,_,_⟩) (by kernel_rfl) rfl rfl ?_ ?_
       ·refine aM rfl (.cons (.pur PurV.pf) .nil) c2 rfl ?_
        rintro _ _ ⟨a5,d5,B5,rfl,rfl⟩
        refine aK ⟨rfl,?_⟩
        refine aT (i := 6) (o := ⟨_,_,_,_,_,_⟩) (by kernel_rfl) rfl ?_
        repeat' (first|refine aO ?_|fail)
        refine ⟨rfl,?_⟩
        refine aT (i := 7) (o := ⟨_,_,_,_,_,_⟩) (by kernel_rfl) rfl ?_
        repeat' (first|refine aO ?_|fail)
        refine ⟨rfl,?_⟩
        refine aT (i := 8) (o := ⟨_,_,_,_,_,_⟩) (by kernel_rfl) rfl ?_
        repeat' (first|refine aO ?_|fail)
        refine ⟨rfl,?_⟩
        refine aT (i := 9) (o := ⟨_,_,_,_,_,_⟩) (by kernel_rfl) rfl ?_
        repeat' (first|refine aO ?_|fail)
        refine ⟨rfl,?_⟩
        refine eR ⟨((a4,d4,B4),(a5,d5,B5)),kM,?_⟩ (by kernel_rfl)
        rw [b8]; simp
       ·refine cX ?_
        repeat' (first|refine aO ?_|fail)
        refine ⟨rfl,aK ⟨rfl,?_⟩⟩
        refine dY (i := 5) (o := ⟨_,_,_,_,_,_⟩) (by kernel_rfl) rfl ?_
        refine aM rfl (.cons (.pur PurV.pf) .nil) c2 rfl ?_
        rintro _ _ ⟨a5,d5,B5,rfl,rfl⟩
        refine aK ⟨rfl,?_⟩
        refine aT (i := 7) (o := ⟨_,_,_,_,_,_⟩) (by kernel_rfl) rfl ?_
        repeat' (first|refine aO ?_|fail)
        refine ⟨rfl,?_⟩
        refine aT (i := 8) (o := ⟨_,_,_,_,_,_⟩) (by kernel_rfl) rfl ?_
        repeat' (first|refine aO ?_|fail)
        refine ⟨rfl,?_⟩
        refine aT (i := 9) (o := ⟨_,_,_,_,_,_⟩) (by kernel_rfl) rfl ?_
        repeat' (first|refine aO ?_|fail)
        refine ⟨rfl,?_⟩
        refine eR ⟨((a4,d4,B4),(a5,d5,B5)),kM,?_⟩ (by kernel_rfl)
        rw [b8]; simp
      ·refine cX ?_
       repeat' (first|refine aO ?_|fail)
       refine ⟨rfl,aK ⟨rfl,?_⟩⟩
       refine dY (i := 2) (o := ⟨_,_,_,_,_,_⟩) (by kernel_rfl) rfl ?_
       refine aM rfl (.cons (.pur PurV.pf) .nil) c1 rfl ?_
       rintro _ _ ⟨a4,d4,B4,rfl,rfl⟩
       refine aK ⟨rfl,?_⟩
       refine jM (i := 5) (i' := 6) (o := ⟨_,_,_,_,_,_⟩) (o' := ⟨_,_,_,_,_,_⟩) (by kernel_rfl) rfl rfl ?_ ?_
       ·refine aM rfl (.cons (.pur PurV.pf) .nil) c2 rfl ?_
        rintro _ _ ⟨a5,d5,B5,rfl,rfl⟩
        refine aK ⟨rfl,?_⟩
        refine aT (i := 6) (o := ⟨_,_,_,_,_,_⟩) (by kernel_rfl) rfl ?_
        repeat' (first|refine aO ?_|fail)
        refine ⟨rfl,?_⟩
        refine aT (i := 7) (o := ⟨_,_,_,_,_,_⟩) (by kernel_rfl) rfl ?_
        repeat' (first|refine aO ?_|fail)
        refine ⟨rfl,?_⟩
        refine aT (i := 8) (o := ⟨_,_,_,_,_,_⟩) (by kernel_rfl) rfl ?_
        repeat' (first|refine aO ?_|fail)
        refine ⟨rfl,?_⟩
        refine aT (i := 9) (o := ⟨_,_,_,_,_,_⟩) (by kernel_rfl) rfl ?_
        repeat' (first|refine aO ?_|fail)
        refine ⟨rfl,?_⟩
        refine eR ⟨((a4,d4,B4),(a5,d5,B5)),kM,?_⟩ (by kernel_rfl)
        rw [b8]; simp
       ·refine cX ?_
        repeat' (first|refine aO ?_|fail)
        refine ⟨rfl,aK ⟨rfl,?_⟩⟩
        refine dY (i := 5) (o := ⟨_,_,_,_,_,_⟩) (by kernel_rfl) rfl ?_
        refine aM rfl (.cons (.pur PurV.pf) .nil) c2 rfl ?_
        rintro _ _ ⟨a5,d5,B5,rfl,rfl⟩
        refine aK ⟨rfl,?_⟩
        refine aT (i := 7) (o := ⟨_,_,_,_,_,_⟩) (by kernel_rfl) rfl ?_
        repeat' (first|refine aO ?_|fail)
        refine ⟨rfl,?_⟩
        refine aT (i := 8) (o := ⟨_,_,_,_,_,_⟩) (by kernel_rfl) rfl ?_
        repeat' (first|refine aO ?_|fail)
        refine ⟨rfl,?_⟩
        refine aT (i := 9) (o := ⟨_,_,_,_,_,_⟩) (by kernel_rfl) rfl ?_
        repeat' (first|refine aO ?_|fail)
        refine ⟨rfl,?_⟩
        refine eR ⟨((a4,d4,B4),(a5,d5,B5)),kM,?_⟩ (by kernel_rfl)
        rw [b8]; simp
     ·repeat' (first|refine aO ?_|fail)
      refine ⟨rfl,?_⟩
      refine aT (i := 1) (o := ⟨_,_,_,_,_,_⟩) (by kernel_rfl) rfl ?_
      repeat' (first|refine aO ?_|fail)
      refine ⟨rfl,?_⟩
      refine dY (i := 2) (o := ⟨_,_,_,_,_,_⟩) (by kernel_rfl) rfl ?_
      refine aM rfl (.cons (.pur PurV.pf) .nil) c1 rfl ?_
      rintro _ _ ⟨a4,d4,B4,rfl,rfl⟩
      refine aK ⟨rfl,?_⟩
      refine jM (i := 5) (i' := 6) (o := ⟨_,_,_,_,_,_⟩) (o' := ⟨_,_,_,_,_,_⟩) (by kernel_rfl) rfl rfl ?_ ?_
      ·refine aM rfl (.cons (.pur PurV.pf) .nil) c2 rfl ?_
       rintro _ _ ⟨a5,d5,B5,rfl,rfl⟩
       refine aK ⟨rfl,?_⟩
       refine aT (i := 6) (o := ⟨_,_,_,_,_,_⟩) (by kernel_rfl) rfl ?_
       repeat' (first|refine aO ?_|fail)
       refine ⟨rfl,?_⟩
       refine aT (i := 7) (o := ⟨_,_,_,_,_,_⟩) (by kernel_rfl) rfl ?_
       repeat' (first|refine aO ?_|fail)
       refine ⟨rfl,?_⟩
       refine aT (i := 8) (o := ⟨_,_,_,_,_,_⟩) (by kernel_rfl) rfl ?_
       repeat' (first|refine aO ?_|fail)
       refine ⟨rfl,?_⟩
       refine aT (i := 9) (o := ⟨_,_,_,_,_,_⟩) (by kernel_rfl) rfl ?_
       repeat' (first|refine aO ?_|fail)
       refine ⟨rfl,?_⟩
       refine eR ⟨((a4,d4,B4),(a5,d5,B5)),kM,?_⟩ (by kernel_rfl)
       rw [b8]; simp
      ·refine cX ?_
       repeat' (first|refine aO ?_|fail)
       refine ⟨rfl,aK ⟨rfl,?_⟩⟩
       refine dY (i := 5) (o := ⟨_,_,_,_,_,_⟩) (by kernel_rfl) rfl ?_
       refine aM rfl (.cons (.pur PurV.pf) .nil) c2 rfl ?_
       rintro _ _ ⟨a5,d5,B5,rfl,rfl⟩
       refine aK ⟨rfl,?_⟩
       refine aT (i := 7) (o := ⟨_,_,_,_,_,_⟩) (by kernel_rfl) rfl ?_
       repeat' (first|refine aO ?_|fail)
       refine ⟨rfl,?_⟩
       refine aT (i := 8) (o := ⟨_,_,_,_,_,_⟩) (by kernel_rfl) rfl ?_
       repeat' (first|refine aO ?_|fail)
       refine ⟨rfl,?_⟩
       refine aT (i := 9) (o := ⟨_,_,_,_,_,_⟩) (by kernel_rfl) rfl ?_
       repeat' (first|refine aO ?_|fail)
       refine ⟨rfl,?_⟩
       refine eR ⟨((a4,d4,B4),(a5,d5,B5)),kM,?_⟩ (by kernel_rfl)
       rw [b8]; simp
   ·repeat' (first|refine aO ?_|fail)
    refine ⟨rfl,?_⟩
    refine jW (i := 0) (i' := 4) (o := ⟨_,_,_,_,_,_⟩) (o' := ⟨_,_,_,_,_,_⟩) (by kernel_rfl) rfl rfl ?_ ?_
    ·repeat' (first|refine aO ?_|fail)
     refine ⟨rfl,?_⟩
     refine jW (i := 1) (i' := 4) (o := ⟨_,_,_,_,_,_⟩) (o' := ⟨_,_,_,_,_,_⟩) (by kernel_rfl) rfl rfl ?_ ?_
     ·repeat' (first|refine aO ?_|fail)
      refine ⟨rfl,?_⟩
      refine jM (i := 2) (i' := 4) (o := ⟨_,_,_,_,_,_⟩) (o' := ⟨_,_,_,_,_,_⟩) (by kernel_rfl) rfl rfl ?_ ?_
      ·refine aM rfl (.cons (.pur PurV.pf) .nil) c1 rfl ?_
       rintro _ _ ⟨a4,d4,B4,rfl,rfl⟩
       refine aK ⟨rfl,?_⟩
       refine aT (i := 4) (o := ⟨_,_,_,_,_,_⟩) (by kernel_rfl) rfl ?_
       repeat' (first|refine aO ?_|fail)
       refine ⟨rfl,?_⟩
       refine jM (i := 5) (i' := 6) (o := ⟨_,_,_,_,_,_⟩) (o' := ⟨_,_,_,_,_,_⟩) (by kernel_rfl) rfl rfl ?_ ?_
       ·refine aM rfl (.cons (.pur PurV.pf) .nil) c2 rfl ?_
        rintro _ _ ⟨a5,d5,B5,rfl,rfl⟩
        refine aK ⟨rfl,?_⟩
        refine aT (i := 6) (o := ⟨_,_,_,_,_,_⟩) (by kernel_rfl) rfl ?_
        repeat' (first|refine aO ?_|fail)
        refine ⟨rfl,?_⟩
        refine aT (i := 7) (o := ⟨_,_,_,_,_,_⟩) (by kernel_rfl) rfl ?_
        repeat' (first|refine aO ?_|fail)
        refine ⟨rfl,?_⟩
        refine aT (i := 8) (o := ⟨_,_,_,_,_,_⟩) (by kernel_rfl) rfl ?_
        repeat' (first|refine aO ?_|fail)
        refine ⟨rfl,?_⟩
        refine aT (i := 9) (o := ⟨_,_,_,_,_,_⟩) (by kernel_rfl) rfl ?_
        repeat' (first|refine aO ?_|fail)
        refine ⟨rfl,?_⟩
        refine eR ⟨((a4,d4,B4),(a5,d5,B5)),kM,?_⟩ (by kernel_rfl)
        rw [b8]; simp
       ·refine cX ?_
        repeat' (first|refine aO ?_|fail)
        refine ⟨rfl,aK ⟨rfl,?_⟩⟩
        refine dY (i := 5) (o := ⟨_,_,_,_,_,_⟩) (by kernel_rfl) rfl ?_
        refine aM rfl (.cons (.pur PurV.pf) .nil) c2 rfl ?_
        rintro _ _ ⟨a5,d5,B5,rfl,rfl⟩
        refine aK ⟨rfl,?_⟩
        refine aT (i := 7) (o := ⟨_,_,_,_,_,_⟩) (by kernel_rfl) rfl ?_
        repeat' (first|refine aO ?_|fail)
        refine ⟨rfl,?_⟩
        refine aT (i := 8) (o := ⟨_,_,_,_,_,_⟩) (by kernel_rfl) rfl ?_
        repeat' (first|refine aO ?_|fail)
        refine ⟨rfl,?_⟩
        refine aT (i := 9) (o := ⟨_,_,_,_,_,_⟩) (by kernel_rfl) rfl ?_
        repeat' (first|refine aO ?_|fail)
        refine ⟨rfl,?_⟩
        refine eR ⟨((a4,d4,B4),(a5,d5,B5)),kM,?_⟩ (by kernel_rfl)
        rw [b8]; simp
      ·refine cX ?_
       repeat' (first|refine aO ?_|fail)
       refine ⟨rfl,aK ⟨rfl,?_⟩⟩
       refine dY (i := 2) (o := ⟨_,_,_,_,_,_⟩) (by kernel_rfl) rfl ?_
       refine aM rfl (.cons (.pur PurV.pf) .nil) c1 rfl ?_
       rintro _ _ ⟨a4,d4,B4,rfl,rfl⟩
       refine aK ⟨rfl,?_⟩
       refine jM (i := 5) (i' := 6) (o := ⟨_,_,_,_,_,_⟩) (o' := ⟨_,_,_,_,_,_⟩) (by kernel_rfl) rfl rfl ?_ ?_
       ·refine aM rfl (.cons (.pur PurV.pf) .nil) c2 rfl ?_
        rintro _ _ ⟨a5,d5,B5,rfl,rfl⟩
        refine aK ⟨rfl,?_⟩
        refine aT (i := 6) (o := ⟨_,_,_,_,_,_⟩) (by kernel_rfl) rfl ?_
        repeat' (first|refine aO ?_|fail)
        refine ⟨rfl,?_⟩
        refine aT (i := 7) (o := ⟨_,_,_,_,_,_⟩) (by kernel_rfl) rfl ?_
        repeat' (first|refine aO ?_|fail)
        refine ⟨rfl,?_⟩
        refine aT (i := 8) (o := ⟨_,_,_,_,_,_⟩) (by kernel_rfl) rfl ?_
        repeat' (first|refine aO ?_|fail)
        refine ⟨rfl,?_⟩
        refine aT (i := 9) (o := ⟨_,_,_,_,_,_⟩) (by kernel_rfl) rfl ?_
        repeat' (first|refine aO ?_|fail)
        refine ⟨rfl,?_⟩
        refine eR ⟨((a4,d4,B4),(a5,d5,B5)),kM,?_⟩ (by kernel_rfl)
        rw [b8]; simp
       ·refine cX ?_
        repeat' (first|refine aO ?_|fail)
        refine ⟨rfl,aK ⟨rfl,?_⟩⟩
        refine dY (i := 5) (o := ⟨_,_,_,_,_,_⟩) (by kernel_rfl) rfl ?_
        refine aM rfl (.cons (.pur PurV.pf) .nil) c2 rfl ?_
        rintro _ _ ⟨a5,d5,B5,rfl,rfl⟩
        refine aK ⟨rfl,?_⟩
        refine aT (i := 7) (o := ⟨_,_,_,_,_,_⟩) (by kernel_rfl) rfl ?_
        repeat' (first|refine aO ?_|fail)
        refine ⟨rfl,?_⟩
        refine aT (i := 8) (o := ⟨_,_,_,_,_,_⟩) (by kernel_rfl) rfl ?_
        repeat' (first|refine aO ?_|fail)
        refine ⟨rfl,?_⟩
        refine aT (i := 9) (o := ⟨_,_,_,_,_,_⟩) (by kernel_rfl) rfl ?_
        repeat' (first|refine aO ?_|fail)
        refine ⟨rfl,?_⟩
        refine eR ⟨((a4,d4,B4),(a5,d5,B5)),kM,?_⟩ (by kernel_rfl)
        rw [b8]; simp
     ·repeat' (first|refine aO ?_|fail)
      refine ⟨rfl,?_⟩
      refine aT (i := 1) (o := ⟨_,_,_,_,_,_⟩) (by kernel_rfl) rfl ?_
      repeat' (first|refine aO ?_|fail)
      refine ⟨rfl,?_⟩
      refine dY (i := 2) (o := ⟨_,_,_,_,_,_⟩) (by kernel_rfl) rfl ?_
      refine aM rfl (.cons (.pur PurV.pf) .nil) c1 rfl ?_
      rintro _ _ ⟨a4,d4,B4,rfl,rfl⟩
      refine aK ⟨rfl,?_⟩
      refine jM (i := 5) (i' := 6) (o := ⟨_,_,_,_,_,_⟩) (o' := ⟨_,_,_,_,_,_⟩) (by kernel_rfl) rfl rfl ?_ ?_
      ·refine aM rfl (.cons (.pur PurV.pf) .nil) c2 rfl ?_
       rintro _ _ ⟨a5,d5,B5,rfl,rfl⟩
       refine aK ⟨rfl,?_⟩
       refine aT (i := 6) (o := ⟨_,_,_,_,_,_⟩) (by kernel_rfl) rfl ?_
       repeat' (first|refine aO ?_|fail)
       refine ⟨rfl,?_⟩
       refine aT (i := 7) (o := ⟨_,_,_,_,_,_⟩) (by kernel_rfl) rfl ?_
       repeat' (first|refine aO ?_|fail)
       refine ⟨rfl,?_⟩
       refine aT (i := 8) (o := ⟨_,_,_,_,_,_⟩) (by kernel_rfl) rfl ?_
       repeat' (first|refine aO ?_|fail)
       refine ⟨rfl,?_⟩
       refine aT (i := 9) (o := ⟨_,_,_,_,_,_⟩) (by kernel_rfl) rfl ?_
       repeat' (first|refine aO ?_|fail)
       refine ⟨rfl,?_⟩
       refine eR ⟨((a4,d4,B4),(a5,d5,B5)),kM,?_⟩ (by kernel_rfl)
       rw [b8]; simp
      ·refine cX ?_
       repeat' (first|refine aO ?_|fail)
       refine ⟨rfl,aK ⟨rfl,?_⟩⟩
       refine dY (i := 5) (o := ⟨_,_,_,_,_,_⟩) (by kernel_rfl) rfl ?_
       refine aM rfl (.cons (.pur PurV.pf) .nil) c2 rfl ?_
       rintro _ _ ⟨a5,d5,B5,rfl,rfl⟩
       refine aK ⟨rfl,?_⟩
       refine aT (i := 7) (o := ⟨_,_,_,_,_,_⟩) (by kernel_rfl) rfl ?_
       repeat' (first|refine aO ?_|fail)
       refine ⟨rfl,?_⟩
       refine aT (i := 8) (o := ⟨_,_,_,_,_,_⟩) (by kernel_rfl) rfl ?_
       repeat' (first|refine aO ?_|fail)
       refine ⟨rfl,?_⟩
       refine aT (i := 9) (o := ⟨_,_,_,_,_,_⟩) (by kernel_rfl) rfl ?_
       repeat' (first|refine aO ?_|fail)
       refine ⟨rfl,?_⟩
       refine eR ⟨((a4,d4,B4),(a5,d5,B5)),kM,?_⟩ (by kernel_rfl)
       rw [b8]; simp
    ·repeat' (first|refine aO ?_|fail)
     refine ⟨rfl,?_⟩
     refine aT (i := 0) (o := ⟨_,_,_,_,_,_⟩) (by kernel_rfl) rfl ?_
     repeat' (first|refine aO ?_|fail)
     refine ⟨rfl,?_⟩
     refine aT (i := 1) (o := ⟨_,_,_,_,_,_⟩) (by kernel_rfl) rfl ?_
     repeat' (first|refine aO ?_|fail)
     refine ⟨rfl,?_⟩
     refine dY (i := 2) (o := ⟨_,_,_,_,_,_⟩) (by kernel_rfl) rfl ?_
     refine aM rfl (.cons (.pur PurV.pf) .nil) c1 rfl ?_
     rintro _ _ ⟨a4,d4,B4,rfl,rfl⟩
     refine aK ⟨rfl,?_⟩
     refine jM (i := 5) (i' := 6) (o := ⟨_,_,_,_,_,_⟩) (o' := ⟨_,_,_,_,_,_⟩) (by kernel_rfl) rfl rfl ?_ ?_
     ·refine aM rfl (.cons (.pur PurV.pf) .nil) c2 rfl ?_
      rintro _ _ ⟨a5,d5,B5,rfl,rfl⟩
      refine aK ⟨rfl,?_⟩
      refine aT (i := 6) (o := ⟨_,_,_,_,_,_⟩) (by kernel_rfl) rfl ?_
      repeat' (first|refine aO ?_|fail)
      refine ⟨rfl,?_⟩
      refine aT (i := 7) (o := ⟨_,_,_,_,_,_⟩) (by kernel_rfl) rfl ?_
      repeat' (first|refine aO ?_|fail)
      refine ⟨rfl,?_⟩
      refine aT (i := 8) (o := ⟨_,_,_,_,_,_⟩) (by kernel_rfl) rfl ?_
      repeat' (first|refine aO ?_|fail)
      refine ⟨rfl,?_⟩
      refine aT (i := 9) (o := ⟨_,_,_,_,_,_⟩) (by kernel_rfl) rfl ?_
      repeat' (first|refine aO ?_|fail)
      refine ⟨rfl,?_⟩
      refine eR ⟨((a4,d4,B4),(a5,d5,B5)),kM,?_⟩ (by kernel_rfl)
      rw [b8]; simp
     ·refine cX ?_
      repeat' (first|refine aO ?_|fail)
      refine ⟨rfl,aK ⟨rfl,?_⟩⟩
      refine dY (i := 5) (o := ⟨_,_,_,_,_,_⟩) (by kernel_rfl) rfl ?_
      refine aM rfl (.cons (.pur PurV.pf) .nil) c2 rfl ?_
      rintro _ _ ⟨a5,d5,B5,rfl,rfl⟩
      refine aK ⟨rfl,?_⟩
      refine aT (i := 7) (o := ⟨_,_,_,_,_,_⟩) (by kernel_rfl) rfl ?_
      repeat' (first|refine aO ?_|fail)
      refine ⟨rfl,?_⟩
      refine aT (i := 8) (o := ⟨_,_,_,_,_,_⟩) (by kernel_rfl) rfl ?_
      repeat' (first|refine aO ?_|fail)
      refine ⟨rfl,?_⟩
      refine aT (i := 9) (o := ⟨_,_,_,_,_,_⟩) (by kernel_rfl) rfl ?_
      repeat' (first|refine aO ?_|fail)
      refine ⟨rfl,?_⟩
      refine eR ⟨((a4,d4,B4),(a5,d5,B5)),kM,?_⟩ (by kernel_rfl)
      rw [b8]; simp
  rintro ⟨⟨a4,d4,B4⟩,⟨a5,d5,B5⟩⟩
  have apT := fun hm => JL (xs := u) (m := k) ((l[k]!,(.slice a4 l[k]!.th.length d4,B4),(.slice a5 l[k]!.el.length d5,B5)) : SX) hm
  show cC _ _ _ _ _ _
  refine awt_lift ?_
  repeat' (first|(apply aH;(apply dU;rfl;rfl;rfl;rfl;rfl;(rw [aI]; omega);(rfl);omega;omega;(exact apT (by (omega)));rfl;rfl))|refine aB ?_|fail)
  show cC _ _ _ _ _ _
  refine awt_lift ?_
  repeat' (first|refine aB ?_|fail)
  refine ⟨(k + 1,u ++ [((l[k]!,(.slice a4 l[k]!.th.length d4,B4),(.slice a5 l[k]!.el.length d5,B5)) : SX)]),⟨by dsimp only;omega,by simp [hul],?_⟩,by dsimp only;omega,?_,rfl⟩
  ·dsimp only;rw [List.map_append,hu,bY l k hkl]; rfl
  ·refine Le.ren [(0,3)] rfl (by decide) ?_ ?_ <;> repeat' (first|exact trivial|refine And.intro ⟨_,rfl,?_⟩ ?_|refine And.intro ⟨_,_,rfl,rfl,?_⟩ ?_|exact Or.inr rfl|refine Or.inl ⟨?_,(by first|rfl|exact bD _ _)⟩|rfl)
 ·show cC _ _ _ _ _ _
  have hkl : k = l.length := by have := of_decide_eq_false hb;omega
  have e : u.map (·.1) = l := by rw [hu,hkl,List.take_length]
  refine awt_lift ?_
  repeat' (first|refine aB ?_|fail)
  refine BB (xs := u) rfl rfl rfl hul.symm (fun a c B => ⟨a,c,B,?_,?_⟩)
  ·rw [hul,hkl]
  ·rw [e,hul,hkl]
theorem Jr (l:List AL.Stmt) (hs:aJ l ≤ 1048576):oW Tryz.prog 92 [sl aF l] (fun r E => ∃ a c B,r = .v (.slice a l.length c) ∧ E = [(.stms l,.slice a l.length c,B)]):=by
 have key : ∀ (m : Nat), m ≤ 1048576 → ∀ l : List AL.Stmt, aJ l ≤ m → oW Tryz.prog 92 [sl aF l] (fun r E => ∃ a c B, r = .v (.slice a l.length c) ∧ E = [(.stms l, .slice a l.length c, B)]) := by
  intro m
  induction m using Nat.strongRecOn with
  | ind m ih =>
   intro hm l hl
   exact HQ m hm (fun l' h1 => ih (aJ l') h1 (by omega) l' (Nat.le_refl _)) l hl
 exact key _ hs l (Nat.le_refl _)
theorem D6 (p:Prg) (hl:p.types.length ≤ 1048576) (hs:aJ p.body ≤ 1048576):oW Tryz.prog 46 [bW p] (fun r E => ∃ a4 c4 B4 a5 c5 B5,r = .agg [.v (.slice a4 p.types.length c4),.v (.slice a5 p.body.length c5)] ∧ E = [(.ints p.types,.slice a4 p.types.length c4,B4),(.stms p.body,.slice a5 p.body.length c5,B5)]):=by
 have c1 := E9 p.types hl
 have c2 := Jr p.body hs
 (refine cS Tryz.func46 rfl (by simp [Tryz.ntmps46]) ?_; rw [Tryz.ntmps46])
 refine aN (awt_lift ?_)
 repeat' (first|refine aB ?_|fail)
 show cC _ _ _ _ _ _
 refine mP (σ := (Option Addr × Nat × List Nat) × (Option Addr × Nat × List Nat)) [2] [(2,_)] [] [] 2 (fun y => []) (fun y => [(1,some [.v (.slice y.1.1 p.types.length y.1.2.1),.v (.slice y.2.1 p.body.length y.2.2.1)])]) (fun y => [(.ints p.types,.slice y.1.1 p.types.length y.1.2.1,y.1.2.2),(.stms p.body,.slice y.2.1 p.body.length y.2.2.1,y.2.2.2)]) rfl rfl (tW (by kernel_rfl) ?_) ?_
 ·refine jW (i := 0) (i' := 3) (o := ⟨_, _, _, _, _, _⟩) (o' := ⟨_, _, _, _, _, _⟩) (by kernel_rfl) rfl rfl ?_ ?_
  ·repeat' (first|refine aO ?_|fail)
   refine ⟨rfl,?_⟩
   refine jW (i := 1) (i' := 3) (o := ⟨_,_,_,_,_,_⟩) (o' := ⟨_,_,_,_,_,_⟩) (by kernel_rfl) rfl rfl ?_ ?_
   ·repeat' (first|refine aO ?_|fail)
    refine ⟨rfl,?_⟩
    refine jM (i := 2) (i' := 3) (o := ⟨_,_,_,_,_,_⟩) (o' := ⟨_,_,_,_,_,_⟩) (by kernel_rfl) rfl rfl ?_ ?_
    ·refine aM rfl (.cons (.pur PurV.pf) .nil) c1 rfl ?_
     rintro _ _ ⟨a4,d4,B4,rfl,rfl⟩
     refine aK ⟨rfl,?_⟩
     refine aT (i := 3) (o := ⟨_,_,_,_,_,_⟩) (by kernel_rfl) rfl ?_
     repeat' (first|refine aO ?_|fail)
     refine ⟨rfl,?_⟩
     refine aT (i := 4) (o := ⟨_,_,_,_,_,_⟩) (by kernel_rfl) rfl ?_
     repeat' (first|refine aO ?_|fail)
     refine ⟨rfl,?_⟩
     refine dY (i := 5) (o := ⟨_,_,_,_,_,_⟩) (by kernel_rfl) rfl ?_
     refine aM rfl (.cons (.pur PurV.pf) .nil) c2 rfl ?_
     rintro _ _ ⟨a5,d5,B5,rfl,rfl⟩
     refine aK ⟨rfl,?_⟩
     refine aT (i := 6) (o := ⟨_,_,_,_,_,_⟩) (by kernel_rfl) rfl ?_
     repeat' (first|(apply aH;(apply c8 (d := 9);rfl;exact (rfl:_=some [_,_]);rfl))|refine aO ?_|fail)
     refine ⟨rfl,?_⟩
     refine aT (i := 7) (o := ⟨_,_,_,_,_,_⟩) (by kernel_rfl) rfl ?_
     repeat' (first|refine aO ?_|fail)
     refine ⟨rfl,?_⟩
     exact eR ⟨((a4,d4,B4),(a5,d5,B5)),kM,rfl⟩ (by kernel_rfl)
    ·refine cX ?_
     repeat' (first|refine aO ?_|fail)
     refine ⟨rfl,aK ⟨rfl,?_⟩⟩
     refine jM (i := 2) (i' := 4) (o := ⟨_,_,_,_,_,_⟩) (o' := ⟨_,_,_,_,_,_⟩) (by kernel_rfl) rfl rfl ?_ ?_
     ·refine aM rfl (.cons (.pur PurV.pf) .nil) c1 rfl ?_
      rintro _ _ ⟨a4,d4,B4,rfl,rfl⟩
      refine aK ⟨rfl,?_⟩
      refine aT (i := 4) (o := ⟨_,_,_,_,_,_⟩) (by kernel_rfl) rfl ?_
      repeat' (first|refine aO ?_|fail)
      refine ⟨rfl,?_⟩
      refine dY (i := 5) (o := ⟨_,_,_,_,_,_⟩) (by kernel_rfl) rfl ?_
      refine aM rfl (.cons (.pur PurV.pf) .nil) c2 rfl ?_
      rintro _ _ ⟨a5,d5,B5,rfl,rfl⟩
      refine aK ⟨rfl,?_⟩
      refine aT (i := 6) (o := ⟨_,_,_,_,_,_⟩) (by kernel_rfl) rfl ?_
      repeat' (first|(apply aH;(apply c8 (d := 9);rfl;exact (rfl:_=some [_,_]);rfl))|refine aO ?_|fail)
      refine ⟨rfl,?_⟩
      refine aT (i := 7) (o := ⟨_,_,_,_,_,_⟩) (by kernel_rfl) rfl ?_
      repeat' (first|refine aO ?_|fail)
      refine ⟨rfl,?_⟩
      exact eR ⟨((a4,d4,B4),(a5,d5,B5)),kM,rfl⟩ (by kernel_rfl)
     ·refine cX ?_
      repeat' (first|refine aO ?_|fail)
      refine ⟨rfl,aK ⟨rfl,?_⟩⟩
      refine dY (i := 2) (o := ⟨_,_,_,_,_,_⟩) (by kernel_rfl) rfl ?_
      refine aM rfl (.cons (.pur PurV.pf) .nil) c1 rfl ?_
      rintro _ _ ⟨a4,d4,B4,rfl,rfl⟩
      refine aK ⟨rfl,?_⟩
      refine dY (i := 5) (o := ⟨_,_,_,_,_,_⟩) (by kernel_rfl) rfl ?_
      refine aM rfl (.cons (.pur PurV.pf) .nil) c2 rfl ?_
      rintro _ _ ⟨a5,d5,B5,rfl,rfl⟩
      refine aK ⟨rfl,?_⟩
      refine aT (i := 6) (o := ⟨_,_,_,_,_,_⟩) (by kernel_rfl) rfl ?_
      repeat' (first|(apply aH;(apply c8 (d := 9);rfl;exact (rfl:_=some [_,_]);rfl))|refine aO ?_|fail)
      refine ⟨rfl,?_⟩
      refine aT (i := 7) (o := ⟨_,_,_,_,_,_⟩) (by kernel_rfl) rfl ?_
      repeat' (first|refine aO ?_|fail)
      refine ⟨rfl,?_⟩
      exact eR ⟨((a4,d4,B4),(a5,d5,B5)),kM,rfl⟩ (by kernel_rfl)
   ·repeat' (first|refine aO ?_|fail)
    refine ⟨rfl,?_⟩
    refine jW (i := 1) (i' := 4) (o := ⟨_,_,_,_,_,_⟩) (o' := ⟨_,_,_,_,_,_⟩) (by kernel_rfl) rfl rfl ?_ ?_
    ·repeat' (first|refine aO ?_|fail)
     refine ⟨rfl,?_⟩
     refine jM (i := 2) (i' := 4) (o := ⟨_,_,_,_,_,_⟩) (o' := ⟨_,_,_,_,_,_⟩) (by kernel_rfl) rfl rfl ?_ ?_
     ·refine aM rfl (.cons (.pur PurV.pf) .nil) c1 rfl ?_
      rintro _ _ ⟨a4,d4,B4,rfl,rfl⟩
      refine aK ⟨rfl,?_⟩
      refine aT (i := 4) (o := ⟨_,_,_,_,_,_⟩) (by kernel_rfl) rfl ?_
      repeat' (first|refine aO ?_|fail)
      refine ⟨rfl,?_⟩
      refine dY (i := 5) (o := ⟨_,_,_,_,_,_⟩) (by kernel_rfl) rfl ?_
      refine aM rfl (.cons (.pur PurV.pf) .nil) c2 rfl ?_
      rintro _ _ ⟨a5,d5,B5,rfl,rfl⟩
      refine aK ⟨rfl,?_⟩
      refine aT (i := 6) (o := ⟨_,_,_,_,_,_⟩) (by kernel_rfl) rfl ?_
      repeat' (first|(apply aH;(apply c8 (d := 9);rfl;exact (rfl:_=some [_,_]);rfl))|refine aO ?_|fail)
      refine ⟨rfl,?_⟩
      refine aT (i := 7) (o := ⟨_,_,_,_,_,_⟩) (by kernel_rfl) rfl ?_
      repeat' (first|refine aO ?_|fail)
      refine ⟨rfl,?_⟩
      exact eR ⟨((a4,d4,B4),(a5,d5,B5)),kM,rfl⟩ (by kernel_rfl)
     ·refine cX ?_
      repeat' (first|refine aO ?_|fail)
      refine ⟨rfl,aK ⟨rfl,?_⟩⟩
      refine dY (i := 2) (o := ⟨_,_,_,_,_,_⟩) (by kernel_rfl) rfl ?_
      refine aM rfl (.cons (.pur PurV.pf) .nil) c1 rfl ?_
      rintro _ _ ⟨a4,d4,B4,rfl,rfl⟩
      refine aK ⟨rfl,?_⟩
      refine dY (i := 5) (o := ⟨_,_,_,_,_,_⟩) (by kernel_rfl) rfl ?_
      refine aM rfl (.cons (.pur PurV.pf) .nil) c2 rfl ?_
      rintro _ _ ⟨a5,d5,B5,rfl,rfl⟩
      refine aK ⟨rfl,?_⟩
      refine aT (i := 6) (o := ⟨_,_,_,_,_,_⟩) (by kernel_rfl) rfl ?_
      repeat' (first|(apply aH;(apply c8 (d := 9);rfl;exact (rfl:_=some [_,_]);rfl))|refine aO ?_|fail)
      refine ⟨rfl,?_⟩
      refine aT (i := 7) (o := ⟨_,_,_,_,_,_⟩) (by kernel_rfl) rfl ?_
      repeat' (first|refine aO ?_|fail)
      refine ⟨rfl,?_⟩
      exact eR ⟨((a4,d4,B4),(a5,d5,B5)),kM,rfl⟩ (by kernel_rfl)
    ·repeat' (first|refine aO ?_|fail)
     refine ⟨rfl,?_⟩
     refine aT (i := 1) (o := ⟨_,_,_,_,_,_⟩) (by kernel_rfl) rfl ?_
     repeat' (first|refine aO ?_|fail)
     refine ⟨rfl,?_⟩
     refine dY (i := 2) (o := ⟨_,_,_,_,_,_⟩) (by kernel_rfl) rfl ?_
     refine aM rfl (.cons (.pur PurV.pf) .nil) c1 rfl ?_
     rintro _ _ ⟨a4,d4,B4,rfl,rfl⟩
     refine aK ⟨rfl,?_⟩
     refine dY (i := 5) (o := ⟨_,_,_,_,_,_⟩) (by kernel_rfl) rfl ?_
     refine aM rfl (.cons (.pur PurV.pf) .nil) c2 rfl ?_
     rintro _ _ ⟨a5,d5,B5,rfl,rfl⟩
     refine aK ⟨rfl,?_⟩
     refine aT (i := 6) (o := ⟨_,_,_,_,_,_⟩) (by kernel_rfl) rfl ?_
     repeat' (first|(apply aH;(apply c8 (d := 9);rfl;exact (rfl:_=some [_,_]);rfl))|refine aO ?_|fail)
     refine ⟨rfl,?_⟩
     refine aT (i := 7) (o := ⟨_,_,_,_,_,_⟩) (by kernel_rfl) rfl ?_
     repeat' (first|refine aO ?_|fail)
     refine ⟨rfl,?_⟩
     exact eR ⟨((a4,d4,B4),(a5,d5,B5)),kM,rfl⟩ (by kernel_rfl)
  ·repeat' (first|refine aO ?_|fail)
   refine ⟨rfl,?_⟩
   refine jW (i := 0) (i' := 4) (o := ⟨_,_,_,_,_,_⟩) (o' := ⟨_,_,_,_,_,_⟩) (by kernel_rfl) rfl rfl ?_ ?_
   ·repeat' (first|refine aO ?_|fail)
    refine ⟨rfl,?_⟩
    refine jW (i := 1) (i' := 4) (o := ⟨_,_,_,_,_,_⟩) (o' := ⟨_,_,_,_,_,_⟩) (by kernel_rfl) rfl rfl ?_ ?_
    ·repeat' (first|refine aO ?_|fail)
     refine ⟨rfl,?_⟩
     refine jM (i := 2) (i' := 4) (o := ⟨_,_,_,_,_,_⟩) (o' := ⟨_,_,_,_,_,_⟩) (by kernel_rfl) rfl rfl ?_ ?_
     ·refine aM rfl (.cons (.pur PurV.pf) .nil) c1 rfl ?_
      rintro _ _ ⟨a4,d4,B4,rfl,rfl⟩
      refine aK ⟨rfl,?_⟩
      refine aT (i := 4) (o := ⟨_,_,_,_,_,_⟩) (by kernel_rfl) rfl ?_
      repeat' (first|refine aO ?_|fail)
      refine ⟨rfl,?_⟩
      refine dY (i := 5) (o := ⟨_,_,_,_,_,_⟩) (by kernel_rfl) rfl ?_
      refine aM rfl (.cons (.pur PurV.pf) .nil) c2 rfl ?_
      rintro _ _ ⟨a5,d5,B5,rfl,rfl⟩
      refine aK ⟨rfl,?_⟩
      refine aT (i := 6) (o := ⟨_,_,_,_,_,_⟩) (by kernel_rfl) rfl ?_
      repeat' (first|(apply aH;(apply c8 (d := 9);rfl;exact (rfl:_=some [_,_]);rfl))|refine aO ?_|fail)
      refine ⟨rfl,?_⟩
      refine aT (i := 7) (o := ⟨_,_,_,_,_,_⟩) (by kernel_rfl) rfl ?_
      repeat' (first|refine aO ?_|fail)
      refine ⟨rfl,?_⟩
      exact eR ⟨((a4,d4,B4),(a5,d5,B5)),kM,rfl⟩ (by kernel_rfl)
     ·refine cX ?_
      repeat' (first|refine aO ?_|fail)
      refine ⟨rfl,aK ⟨rfl,?_⟩⟩
      refine dY (i := 2) (o := ⟨_,_,_,_,_,_⟩) (by kernel_rfl) rfl ?_
      refine aM rfl (.cons (.pur PurV.pf) .nil) c1 rfl ?_
      rintro _ _ ⟨a4,d4,B4,rfl,rfl⟩
      refine aK ⟨rfl,?_⟩
      refine dY (i := 5) (o := ⟨_,_,_,_,_,_⟩) (by kernel_rfl) rfl ?_
      refine aM rfl (.cons (.pur PurV.pf) .nil) c2 rfl ?_
      rintro _ _ ⟨a5,d5,B5,rfl,rfl⟩
      refine aK ⟨rfl,?_⟩
      refine aT (i := 6) (o := ⟨_,_,_,_,_,_⟩) (by kernel_rfl) rfl ?_
      repeat' (first|(apply aH;(apply c8 (d := 9);rfl;exact (rfl:_=some [_,_]);rfl))|refine aO ?_|fail)
      refine ⟨rfl,?_⟩
      refine aT (i := 7) (o := ⟨_,_,_,_,_,_⟩) (by kernel_rfl) rfl ?_
      repeat' (first|refine aO ?_|fail)
      refine ⟨rfl,?_⟩
      exact eR ⟨((a4,d4,B4),(a5,d5,B5)),kM,rfl⟩ (by kernel_rfl)
    ·repeat' (first|refine aO ?_|fail)
     refine ⟨rfl,?_⟩
     refine aT (i := 1) (o := ⟨_,_,_,_,_,_⟩) (by kernel_rfl) rfl ?_
     repeat' (first|refine aO ?_|fail)
     refine ⟨rfl,?_⟩
     refine dY (i := 2) (o := ⟨_,_,_,_,_,_⟩) (by kernel_rfl) rfl ?_
     refine aM rfl (.cons (.pur PurV.pf) .nil) c1 rfl ?_
     rintro _ _ ⟨a4,d4,B4,rfl,rfl⟩
     refine aK ⟨rfl,?_⟩
     refine dY (i := 5) (o := ⟨_,_,_,_,_,_⟩) (by kernel_rfl) rfl ?_
     refine aM rfl (.cons (.pur PurV.pf) .nil) c2 rfl ?_
     rintro _ _ ⟨a5,d5,B5,rfl,rfl⟩
     refine aK ⟨rfl,?_⟩
     refine aT (i := 6) (o := ⟨_,_,_,_,_,_⟩) (by kernel_rfl) rfl ?_
     repeat' (first|(apply aH;(apply c8 (d := 9);rfl;exact (rfl:_=some [_,_]);rfl))|refine aO ?_|fail)
     refine ⟨rfl,?_⟩
     refine aT (i := 7) (o := ⟨_,_,_,_,_,_⟩) (by kernel_rfl) rfl ?_
     repeat' (first|refine aO ?_|fail)
     refine ⟨rfl,?_⟩
     exact eR ⟨((a4,d4,B4),(a5,d5,B5)),kM,rfl⟩ (by kernel_rfl)
   ·repeat' (first|refine aO ?_|fail)
    refine ⟨rfl,?_⟩
    refine aT (i := 0) (o := ⟨_,_,_,_,_,_⟩) (by kernel_rfl) rfl ?_
    repeat' (first|refine aO ?_|fail)
    refine ⟨rfl,?_⟩
    refine aT (i := 1) (o := ⟨_,_,_,_,_,_⟩) (by kernel_rfl) rfl ?_
    repeat' (first|refine aO ?_|fail)
    refine ⟨rfl,?_⟩
    refine dY (i := 2) (o := ⟨_,_,_,_,_,_⟩) (by kernel_rfl) rfl ?_
    refine aM rfl (.cons (.pur PurV.pf) .nil) c1 rfl ?_
    rintro _ _ ⟨a4,d4,B4,rfl,rfl⟩
    refine aK ⟨rfl,?_⟩
    refine dY (i := 5) (o := ⟨_,_,_,_,_,_⟩) (by kernel_rfl) rfl ?_
    refine aM rfl (.cons (.pur PurV.pf) .nil) c2 rfl ?_
    rintro _ _ ⟨a5,d5,B5,rfl,rfl⟩
    refine aK ⟨rfl,?_⟩
    refine aT (i := 6) (o := ⟨_,_,_,_,_,_⟩) (by kernel_rfl) rfl ?_
    repeat' (first|(apply aH;(apply c8 (d := 9);rfl;exact (rfl:_=some [_,_]);rfl))|refine aO ?_|fail)
    refine ⟨rfl,?_⟩
    refine aT (i := 7) (o := ⟨_,_,_,_,_,_⟩) (by kernel_rfl) rfl ?_
    repeat' (first|refine aO ?_|fail)
    refine ⟨rfl,?_⟩
    exact eR ⟨((a4,d4,B4),(a5,d5,B5)),kM,rfl⟩ (by kernel_rfl)
 rintro ⟨⟨a4,d4,B4⟩,⟨a5,d5,B5⟩⟩
 show cC _ _ _ _ _ _
 refine awt_lift ?_
 repeat' (first|refine Ik ?_|fail)
 exact nB (l := [.agg [.v (.slice a4 p.types.length d4),.v (.slice a5 p.body.length d5)]]) rfl rfl rfl ⟨a4,d4,B4,a5,d5,B5,rfl,rfl⟩
end Go.Proofs.YtgkalkgplcdnkaaGreat
namespace Go.Proofs.YtgkalkgplcdnkaaGreat
open Go Go.AL Go.RowKit
theorem Ee {xs:List SX}{m k:Nat}{N:Nat}{Q:Exit → AS → Prop}{all:Array Oper}{rest:List Oper}{tsl:List (Nat × AV)}{hsl:List (Nat × Option (List AV))}{nidl:Nat}{z0:Lo}{md:Md}{d:Nat}{ty:TypeId}{pos:String}{af:Array Edge}{tys:Array TypeId}{x0 x1 x2:Operand}{i0:Nat}(ha0:ev (lk tsl) x0 = some (.own i0 0 m 6)) (ha1:ev (lk tsl) x1 = some (iv (k:Int))) (ha2:ev (lk tsl) x2 = some (iv ((k:Int) + 1))) (hH0:aQ hsl i0 = some (flat cT xs)) (hmc:MC Tryz.prog 95 [.own 0 0 m 6,iv (k:Int),iv ((k:Int) + 1)] [(0,some (flat cT xs))] 1 (fun _:Unit => True) (fun _ => .own 0 0 (m - 1) 6) (fun _ => [(0,some (flat cT (bI k xs)))])) (hM:Nat.ble (nidl + 0) aY = true) (hN:Nat.blt d N = true){md':Md}[hmd:MdA md (jH [x0,x1,x2] ++ [.inr i0]) (List.map Sum.inr (List.map Prod.fst ([(i0,some (flat cT (bI k xs)))]:List (Nat × Option (List AV)))) ++ [.inl d]) md'] (kk:RW Tryz.prog N all Q md' rest ⟨(d,.own i0 0 (m - 1) 6) :: tsl,mI hsl [(i0,some (flat cT (bI k xs)))],nidl + 0,z0⟩):RW Tryz.prog N all Q md (⟨some d,.call ⟨.value (.func 95),#[x0,x1,x2],tys⟩,ty,pos,af,none⟩ :: rest) ⟨tsl,hsl,nidl,z0⟩:=by
 exact cF (l := [x0,x1,x2]) [i0] 1 [(i0,some (flat cT (bI k xs)))] hmc (avs := [.own i0 0 m 6,iv (k : Int),iv ((k : Int) + 1)]) (by simp only [evL,ha0,ha1,ha2]) rfl hM hN (md' := md') (hmd := hmd) kk
theorem HT (xs:List SX) (m k:Nat) (hm:m = xs.length) (hk:k < m) (hl:m ≤ 1048576):MC Tryz.prog 95 [.own 0 0 m 6,iv (k:Int),iv ((k:Int) + 1)] [(0,some (flat cT xs))] 1 (fun _:Unit => True) (fun _ => .own 0 0 (m - 1) 6) (fun _ => [(0,some (flat cT (bI k xs)))]):=by
 subst hm
 refine cR Tryz.func95 Tryz.ntmps95 ?_
 repeat' (first|(apply aH;first|(apply nY (l := k) (h := k + 1) (k := xs.length);rfl;exact cJ rfl (by omega);exact cJ rfl (by omega);exact cJ rfl (by omega);omega;rfl)|(apply nO (d := 22) (h := k);rfl;exact cJ rfl (by omega);omega;omega;rfl)|(apply fS (d := 25) (l := k + 1) (h := xs.length);rfl;rfl;exact cJ rfl (by omega);rfl;exact if_pos (by omega);rfl)|(apply j6 (d := 26);rfl;rfl;rfl;exact mX rfl rfl;omega;(rw [aI cT (e := 6),aI cT (e := 6),List.length_drop]; omega);exact uR hk;rfl)|(apply tP;rfl;rfl)|(apply mA (d := 31) (l := xs.length - 1) (h := xs.length);rfl;exact cJ rfl (by omega);exact cJ rfl (by omega);omega;rfl)|(apply qY;rfl;rfl;omega;rfl;(rw [List.length_append,aI cT (e := 6),aI cT (e := 6),List.length_drop]; have := bR hk;omega);exact pU hk (by omega) rfl))|refine aB ?_|(refine aV ?_ ?_ <;> intro hc hq <;> try (exfalso;omega))|refine dH ?_|fail)
 refine bK (Le.noroom (d := 6) rfl) ?_
 refine bK (Le.cut (i := 0) ((xs.length - 1) * 6) rfl) ?_
 (refine aP rfl ?_; refine eP () trivial ?_ ⟨sE ?_,trivial⟩)
 ·show AV.own 0 0 (k + (xs.length - (k + 1))) 6 = _
  rw [show k + (xs.length - (k + 1)) = xs.length - 1 by omega]
 ·rw [List.take_left' (by rw [aI cT (e := 6)]; have := bR hk;omega)]
theorem tR {α β:Type}(f:α → List β){a b:List α}(h:a.Sublist b):(a.flatMap f).Sublist (b.flatMap f):=by
 induction h with
 | slnil => exact List.Sublist.refl _
 | cons x _ ih => rw [List.flatMap_cons]; exact ih.trans (List.sublist_append_right _ _)
 | cons_cons x _ ih => rw [List.flatMap_cons,List.flatMap_cons]; exact (List.Sublist.refl _).append ih
theorem G8 (xs:List SX) (k:Nat):∀ w,TrE (eN xs) w → TrE (eN (bI k xs)) w:=by
 intro w h
 have hs : (bI k xs).Sublist xs := by
  unfold bI
  have := (List.Sublist.refl (xs.take k)).append (List.drop_sublist 1 (xs.drop k))
  rw [List.drop_drop,List.take_append_drop] at this
  exact this
 have hE : (eN (bI k xs)).Sublist (eN xs) := by unfold eN;exact tR _ hs
 exact ⟨fun t ht => h.t t (hE.subset ht),(show (bl (eN (bI k xs))).Sublist (bl (eN xs)) from by unfold bl;exact tR _ hE).nodup h.nd⟩
theorem Ia (xs:List SX) (k:Nat):∀ b,b ∈ bl (eN (bI k xs)) → b ∈ bl (eN xs):=by
 intro b hb
 have hs : (bI k xs).Sublist xs := by
  unfold bI
  have := (List.Sublist.refl (xs.take k)).append (List.drop_sublist 1 (xs.drop k))
  rw [List.drop_drop,List.take_append_drop] at this
  exact this
 have hE : (eN (bI k xs)).Sublist (eN xs) := by unfold eN;exact tR _ hs
 exact (show (bl (eN (bI k xs))).Sublist (bl (eN xs)) from by unfold bl;exact tR _ hE).subset hb
theorem xF (xs:List SX) (k:Nat):(bI k xs).map (·.1) = bI k (xs.map (·.1)):=by
 unfold bI;rw [List.map_append,List.map_take,List.map_drop]
theorem Cf (p:Prg) (k:Nat) (hk:k < p.body.length) (hl:p.types.length ≤ 1048576) (hs:aJ p.body ≤ 1048576):oW Tryz.prog 50 [bW p,iv (k:Int)] (fun r E => ∃ a4 c4 B4 a5 c5 B5,r = .agg [.v (.slice a4 p.types.length c4),.v (.slice a5 (bI k p.body).length c5)] ∧ E = [(.ints p.types,.slice a4 p.types.length c4,B4),(.stms (bI k p.body),.slice a5 (bI k p.body).length c5,B5)]):=by
 have hlen := bE p.body
 have ho := D6 p hl hs
 have hdl := bR hk
 (refine cS Tryz.func50 rfl (by simp [Tryz.ntmps50]) ?_; rw [Tryz.ntmps50])
 refine aN (awt_lift ?_)
 repeat' (first|refine aB ?_|fail)
 show cC _ _ _ _ _ _
 refine aN (aZ ?_)
 refine aS (l1 := [_]) ?_
 repeat' (first|refine aO ?_|fail)
 refine ⟨rfl,?_⟩
 refine aM rfl (.cons (.pur PurV.pf) .nil) ho rfl ?_
 rintro _ _ ⟨a4,d4,B4,a5,d5,B5,rfl,rfl⟩
 refine aS (l1 := [_,_]) (l2 := []) ?_
 repeat' (first|refine aO ?_|fail)
 refine ⟨rfl,aK ?_⟩
 show cC _ _ _ _ _ _
 refine aN (aZ ?_)
 refine aS (l1 := [_,_]) ?_
 repeat' (first|refine aO ?_|fail)
 refine ⟨rfl,?_⟩
 refine Gf [(.ints p.types,.slice a4 p.types.length d4,B4)] [] 9 rfl rfl (by omega) (by decide) ?_
 intro xs hx1 hx2
 refine aS (l1 := [_,_,_,_]) ?_
 repeat' (first|(apply aH;(apply Ee (xs := xs) (k := k);rfl;rfl;rfl;rfl;(apply HT <;> (omega));rfl;rfl))|refine aO ?_|fail)
 refine ⟨rfl,?_⟩
 refine HB [(.ints p.types,.slice a4 p.types.length d4,B4)] (eN xs) [] (ys := bI k xs) 13 rfl rfl rfl ?_ (G8 xs k) (Ia xs k) ?_
 ·have := bR (k := k) (xs := xs) (by omega)
  omega
 intro a6 d6 B6
 rw [xF,hx1,show p.body.length - 1 = (bI k p.body).length by omega]
 refine aS (l1 := [_,_]) (l2 := []) ?_
 repeat' (first|refine aO ?_|fail)
 refine ⟨rfl,aK ?_⟩
 show cC _ _ _ _ _ _
 refine awt_lift ?_
 repeat' (first|refine aB ?_|fail)
 exact nB (l := [.agg [.v (.slice a4 p.types.length d4),.v (.slice a6 (bI k p.body).length d6)]]) rfl rfl rfl ⟨a4,d4,B4,a6,d6,B6,rfl,rfl⟩
end Go.Proofs.YtgkalkgplcdnkaaGreat
namespace Go.Proofs.YtgkalkgplcdnkaaGreat
open Go.AL Go.ChangeShapes Go.WideShapes Go.ChangeAt Go.RowKit
theorem vC {P:Program}{k:FuncId}{avs:List AV}(h:oW P k avs (fun r E => r = bv true)){W:World}{vs:List Value}(hv:RdV W (fun _ => False) (fun _ => none) avs vs) :
  Calls P k vs.toArray W fun e W' => e = .returned (.bool true) ∧ Below W.heap.size W W' := by
 refine (h W (fun _ => False) vs (fun _ q => q.elim) hv).mono ?_
 rintro e W' ⟨v,r,E,rfl,rfl,_,h4,f,_,_⟩
 simp only [Rd] at h4
 subst h4
 exact ⟨rfl,f.os,f.tape,f.output,f.size,fun b hb => f.block b hb (fun h => h)⟩
theorem ET {P:Program}{k:FuncId}{avs:List AV}(h:PC P k avs (fun r => r = bv true)):oW P k avs (fun r E => r = bv true):=by
 intro w bad vals hb hv
 refine (cG h rfl w bad vals hb hv).mono ?_
 rintro e w' ⟨v,r,E,h1,⟨h2,_⟩,h3⟩
 exact ⟨v,r,E,h1,h2,h3⟩
end Go.Proofs.YtgkalkgplcdnkaaGreat
namespace Go.Proofs.YtgkalkgplcdnkaaGreat
open Go.AL Go.RowKit
abbrev Jv := (Option Addr × Nat × List Nat) × (Option Addr × Nat × List Nat)
def JW (ts : List Int) (b : List AL.Stmt) : Option Jv → dE
 | none => []
 | some y => [(.ints ts,.slice y.1.1 ts.length y.1.2.1,y.1.2.2),(.stms b,.slice y.2.1 b.length y.2.2.1,y.2.2.2)]
def Jn (ts : List Int) (b : List AL.Stmt) : Option Jv → List AV
 | none => [sl cI ts,sl aF b]
 | some y => [.v (.slice y.1.1 ts.length y.1.2.1),.v (.slice y.2.1 b.length y.2.2.1)]
instance (ts : List Int) (b : List AL.Stmt) (y : Option Jv) : Pur (Jn ts b y):=⟨by cases y with | none => exact (Pur.pf : bQ [sl cI ts,sl aF b] = true) | some y => rfl⟩
def GR (Q : Prg) (M : List Int) (r : AV) (E : dE) : Prop := ∃ a4 c4 B4 a5 c5 B5 a6 c6 B6,r = .tup [.agg [.v (.slice a4 Q.types.length c4),.v (.slice a5 Q.body.length c5)],.v (.slice a6 M.length c6)] ∧ E = [(.ints Q.types,.slice a4 Q.types.length c4,B4),(.stms Q.body,.slice a5 Q.body.length c5,B5),(.ints M,.slice a6 M.length c6,B6)]
theorem Gr {P:Program}{res:Array ResultVar}{s:AS}{E:dE}{l:List AV}(hr:iQ P (lk s.ts) (aQ s.hs) res.toList = some l) (e:aR l = .tup [.agg [.v (.slice none 0 0),.v (.slice none 0 0)],.v (.slice none 0 0)]):xL P res (GR ⟨[],[]⟩ []) .ret s E :=
 Ho hr e rfl (E' := [(.ints [], .slice none 0 0, []), (.stms [], .slice none 0 0, []), (.ints [], .slice none 0 0, [])]) (fun w => ⟨fun t ht => by
  simp only [List.mem_cons,List.not_mem_nil,or_false] at ht
  rcases ht with rfl|rfl|rfl
  ·simp only [TrX]; exact .nil
  ·simp only [TrX]; exact .nil
  ·simp only [TrX]; exact .nil,by simp [bl]⟩) rfl ⟨none,0,[],none,0,[],none,0,[],rfl,rfl⟩
theorem yX (p:Prg) (hv:bZ p = false) (hl:p.types.length ≤ 1048576) (hs:aJ p.body ≤ 1048576):oW Tryz.prog 17 [bW p] (GR ⟨[],[]⟩ []):=by
 have hval := kN p hl (by omega)
 rw [hv] at hval
 (refine cS Tryz.func17 rfl (by simp [Tryz.ntmps17]) ?_; rw [Tryz.ntmps17])
 refine awt_lift ?_
 repeat' (first|(apply aH;first|(apply aA (k := 45);rfl;exact hval;exact Pur.pf;rfl)|(apply c8 (d := 14);rfl;exact (rfl:_=some [_,_]);rfl))|refine aB ?_|fail)
 exact Gr rfl rfl
def Ku (p : Prg) (b : List AL.Stmt) (l m : List Int) (Q : Prg) (M : List Int) (o : Option Jv) : Prop :=
 (o.isSome = true → FI ⟨p.types,b⟩ [] ∧ Q = ⟨p.types,b⟩ ∧ M = m) ∧ (o.isSome = false → ∃ x L k,FI ⟨p.types,b⟩ (x :: L) ∧ AtS b x.point k ∧ RepS FI (kD ⟨p.types,b⟩ k) (bI k l) (m ++ [l[k]!]) Q M)
theorem C2 (p:Prg) (hv:bZ p = true) (hl:p.types.length ≤ 1048576) (hs:aJ p.body ≤ 1048576) (Q:Prg) (M:List Int) (hR:RepS FI p (Jx p.body.length []) [] Q M):oW Tryz.prog 17 [bW p] (GR Q M):=by
 have hval := kN p hl (by omega)
 rw [hv] at hval
 have hown := Ea p hs hl
 have hownt := D6 p hl hs
 have hlen := bE p.body
 (refine cS Tryz.func17 rfl (by simp [Tryz.ntmps17]) ?_; rw [Tryz.ntmps17])
 refine aN (awt_lift ?_)
 repeat' (first|refine aB ?_|fail)
 show cC _ _ _ _ _ _
 refine aN (awt_lift ?_)
 repeat' (first|(apply aH;(apply aA (k := 45);rfl;exact hval;exact Pur.pf;rfl))|refine aB ?_|fail)
 show cC _ _ _ _ _ _
 refine mP (σ := {y : Option Jv // Ku p p.body (Bi p.body.length) [] Q M y}) [1,2,3] [(1,_),(2,_),(3,_)] [0,1] [(0,some _),(1,some _)] 3 (fun y => [(4,.optr 2 0)]) (fun y => [(2,some (Jn p.types p.body y.1))]) (fun y => JW p.types p.body y.1) rfl rfl ?_ ?_
 ·rcases hR.inv with ⟨hF, e1, e2⟩ | ⟨x, L, k, hF, hk, hr⟩
  ·refine aZ ?_
   refine aS (l1 := [_]) ?_
   repeat' (first|refine aO ?_|fail)
   refine ⟨rfl,?_⟩
   refine aM rfl (.cons (.pur PurV.pf) .nil) hownt rfl ?_
   rintro _ _ ⟨a4,d4,B4,a5,d5,B5,rfl,rfl⟩
   refine aS (l1 := [_,_]) (l2 := []) ?_
   repeat' (first|refine aO ?_|fail)
   refine ⟨rfl,aK ?_⟩
   exact ⟨⟨some ((a4,d4,B4),(a5,d5,B5)),And.intro (fun _ => ⟨hF,e1,e2⟩) (fun h => by cases h)⟩,kM,rfl⟩
  ·refine awt_lift ?_
   repeat' (first|(apply aH;(apply aA (k := 46);rfl;exact hown;exact Pur.pf;rfl))|refine aB ?_|fail)
   exact ⟨⟨none,And.intro (fun h => by cases h) (fun _ => ⟨x,L,k,hF,hk,by rw [zA]; exact hr⟩)⟩,kM,rfl⟩
 rintro ⟨y,hy⟩
 dsimp only
 show cC _ _ _ _ _ _
 refine aN (awt_lift ?_)
 repeat' (first|(apply aH;first|(apply cP (d := 5) (e := 1);rfl;rfl)|(apply cP (d := 6) (e := 1);rfl;rfl))|refine aB ?_|fail)
 show cC _ _ _ _ _ _
 refine aN (awt_lift ?_)
 repeat' (first|refine aB ?_|fail)
 refine aL (σ := Nat × List Int) [2,4,6,19] [4,2,1,0] (fun k => [(20,iv (k.1 : Int)),(5,.own 3 0 k.1 1)]) (fun k => [(3,some (flat cI k.2))]) (fun k => k.1 ≤ p.body.length ∧ k.2 = Bi k.1) (fun k => p.body.length - k.1) (0,[]) ⟨Nat.zero_le _,rfl⟩ ?_
 rintro ⟨k,u⟩ ⟨hk,hu⟩
 dsimp only at hk hu
 try dsimp only
 have hrn := uH k
 rw [← hu] at hrn
 have hrs := qK k
 by_cases hkn : k < p.body.length
 ·repeat' (first | (apply aH; (apply aW (t := _);rfl;rfl;rfl;exact (rfl:_=some [_]);rfl;rfl)) | refine aB ?_ | (refine aV ?_ ?_ <;> intro hc hq <;> try (exfalso; omega))|fail)
  (refine bT (k + 1,_) (Le.renA [(0,0),(1,1),(2,2),(4,4),(3,6)]) ?_ ?_)
  ·exact ⟨hkn,by dsimp only;rw [hrs,hu]⟩
  ·show p.body.length - (k + 1) < p.body.length - k;omega
 obtain rfl : k = p.body.length := by omega
 subst hu
 repeat' (first|refine aB ?_|(refine aV ?_ ?_ <;> intro hc hq <;> try (exfalso;omega))|fail)
 show cC _ _ _ _ _ _
 refine eM ?_
 refine lG (σ := List AL.Stmt × List Int × List Int × Nat × Nat × Option Jv) [2,4] [(2,_),(4,_)] [1,0] [(1,some _),(0,some _)] (fun s => [(5,.own 3 0 s.2.2.2.1 1),(6,.own 4 0 s.2.2.2.2.1 1)]) (fun s => [(2,some (Jn p.types s.1 s.2.2.2.2.2)),(3,some (flat cI s.2.1)),(4,some (flat cI s.2.2.1))]) (fun s => JW p.types s.1 s.2.2.2.2.2) (fun s => Ku p s.1 s.2.1 s.2.2.1 Q M s.2.2.2.2.2 ∧ s.2.1.length = s.1.length ∧ bZ ⟨p.types,s.1⟩ = true ∧ aJ s.1 ≤ aJ p.body ∧ s.2.2.2.1 = s.2.1.length ∧ s.2.2.2.2.1 = s.2.2.1.length ∧ s.2.2.1.length + s.1.length = p.body.length) (fun s => s.1.length) (p.body,Bi p.body.length,[],p.body.length,0,y) ⟨hy,hrn,hv,Nat.le_refl _,hrn.symm,rfl,Nat.zero_add _⟩ (rfl) rfl rfl (by repeat' (first|exact trivial|refine And.intro rfl ?_)) (by repeat' (first|exact trivial|refine And.intro (.inr rfl) ?_)) ?_
 rintro ⟨b,l,m,ln,mn,o⟩ ⟨hO,h1,h2,h3,h4,h5,h6⟩
 dsimp only at hO h1 h2 h3 h4 h5 h6
 try dsimp only
 cases o with
 | some z =>
  obtain ⟨⟨a4,d4,B4⟩,⟨a5,d5,B5⟩⟩ := z
  obtain ⟨hF,rfl,rfl⟩ := hO.1 rfl
  have hfi := lJ ⟨p.types,b⟩ [] hF.1
  show cC _ _ _ _ [(.ints p.types,.slice a4 p.types.length d4,B4),(.stms b,.slice a5 b.length d5,B5)] ⟨_,[(2,some [.v (.slice a4 p.types.length d4),.v (.slice a5 b.length d5)]),(3,some (flat cI l)),(4,some (flat cI M))] ++ _,_,_⟩
  refine eM ?_
  refine aN (aZ ?_)
  refine aS (l1 := [_]) ?_
  repeat' (first|refine aO ?_|fail)
  refine ⟨rfl,?_⟩
  refine aM rfl (.cons (.agg (.cons (.tree (t := .ints p.types) (B := B4) (by simp)) (.cons (.tree (t := .stms b) (B := B5) (by simp)) .nil))) .nil) (cG hfi rfl) rfl ?_
  rintro _ _ ⟨rfl,rfl⟩
  rw [List.append_nil]
  refine aS (l1 := [_,_,_,_,_,_]) (l2 := []) ?_
  repeat' (first|refine aO ?_|fail)
  refine ⟨rfl,aK ?_⟩
  show cC _ _ _ _ _ _
  refine aN (aN (awt_lift ?_))
  repeat' (first|refine aB ?_|fail)
  show cC _ _ _ _ _ _
  refine fY rfl (fun hb => ?_) (fun hb => by cases hb)
  show cC _ _ _ _ _ _
  refine awt_lift ?_
  repeat' (first|refine aB ?_|fail)
  exact DX rfl rfl rfl rfl h5 (fun a c B => ⟨a4,d4,B4,a5,d5,B5,a,c,B,rfl,rfl⟩)
 | none =>
  obtain ⟨x,L,k,hF,hk,hr⟩ := hO.2 rfl
  have hfi : PC Tryz.prog 47 [bW ⟨p.types,b⟩] (fun r => r = .tup [CP x,bv true]) := lJ ⟨p.types,b⟩ (x :: L) hF.1
  have hkl := hk.lt
  have hx0 : 0 ≤ x.point := by have := hk.lo;omega
  have hbl := bE b
  show cC _ _ _ _ [] ⟨_,[(2,some [sl cI p.types,sl aF b]),(3,some (flat cI l)),(4,some (flat cI m))] ++ _,_,_⟩
  refine eM ?_
  refine aN (awt_lift ?_)
  repeat' (first|(apply aH;(apply aA (k := 47);rfl;exact hfi;exact Pur.pf;rfl))|refine aB ?_|fail)
  show cC _ _ _ _ _ _
  refine aN (aN (awt_lift ?_))
  repeat' (first|refine aB ?_|fail)
  show cC _ _ _ _ _ _
  refine fY rfl (fun hb => by cases hb) (fun hb => gX ?_)
  show cC _ _ _ _ _ _
  refine aN (awt_lift ?_)
  repeat' (first|refine aB ?_|fail)
  show cC _ _ _ _ _ _
  refine aN (awt_lift ?_)
  repeat' (first|refine Ik ?_|fail)
  refine aL (σ := Nat) [2,4,5,6,8] [5,4,3,2,1,0] (fun j => [(10,iv (j : Int))]) (fun j => []) (fun j => j < b.length ∧ (cD (b.take j) : Int) ≤ x.point) (fun j => b.length - j) (0) ⟨by omega,by simpa [cD] using hx0⟩ ?_
  intro j ⟨hj,hjx⟩
  have hdr : PC Tryz.prog 50 [bW ⟨p.types,b⟩,iv (j : Int)] (fun r => r = .agg [sl cI p.types,sl aF (bI j b)]) := tC ⟨p.types,b⟩ j hj (by show aJ b ≤ _; omega) hl
  have hdt := Cf ⟨p.types,b⟩ j hj hl (by show aJ b ≤ _; omega)
  by_cases hjn : j + 1 < b.length
  ·have hfp : PC Tryz.prog 48 [bW ⟨p.types, b⟩, iv ((j : Int) + 1)] (fun r => r = iv (cD (b.take (j + 1)) : Int)) := nC ⟨p.types, b⟩ (j + 1) (by show j + 1 ≤ b.length; omega) (by show aJ b ≤ _; omega)
   repeat' (first|(apply aH;(apply aA (k := 48);rfl;exact hfp;exact Pur.pf;rfl))|refine aB ?_|(refine aV ?_ ?_ <;> intro hc hq <;> try (exfalso;omega))|(refine dB ?_ ?_ <;> intro hg hq <;> try (exfalso;omega))|refine dH ?_|fail)
   ·(refine bT (j + 1) (Le.renA [(0, 0), (1, 1), (2, 2), (3, 3), (4, 4), (5, 5)]) ?_ ?_)
    ·exact ⟨hjn,by assumption⟩
    ·omega
   ·have e : j = k := AtS.uniq ⟨hj, hjx, fun _ => by assumption⟩ hk
    subst e
    show cC _ _ _ _ _ _
    refine aN (awt_lift ?_)
    repeat' (first|refine aB ?_|fail)
    show cC _ _ _ _ _ _
    refine aN (awt_lift ?_)
    repeat' (first|(apply aH;(apply o7;rfl;rfl;rfl;(rfl);(apply uD <;> (first|assumption|omega));rfl;rfl))|refine aB ?_|fail)
    show cC _ _ _ _ _ _
    have d1 := bR (k := j) (xs := b) hj
    have d2 := bR (k := j) (xs := l) (by omega)
    have d3 := eX b j
    rcases hr.inv with ⟨hF',e1,e2⟩ | ⟨x',L',k',hF',hk',hr'⟩
    ·refine aZ ?_
     refine aS (l1 := [_,_]) ?_
     repeat' (first|refine aO ?_|fail)
     refine ⟨rfl,?_⟩
     refine aM rfl (.cons (.pur PurV.pf) (.cons (.pur PurV.pf) .nil)) hdt rfl ?_
     rintro _ _ ⟨a4,d4,B4,a5,d5,B5,rfl,rfl⟩
     refine aS (l1 := [_]) (l2 := []) ?_
     repeat' (first|refine aO ?_|fail)
     refine ⟨rfl,aK ?_⟩
     refine ⟨(bI j b,bI j l,m ++ [l[j]!],ln - 1,mn + 1,some ((a4,d4,B4),(a5,d5,B5))),⟨And.intro (fun _ => ⟨hF',e1,e2⟩) (fun h => by cases h),by dsimp only;omega,c9 h2,by dsimp only;omega,by dsimp only;omega,by simp [h5],by simp;omega⟩,by dsimp only;omega,?_,rfl⟩
     refine Le.ren [(0,0),(1,1),(2,2),(3,3),(4,7)] rfl (by decide) ?_ ?_ <;> repeat' (first|exact trivial|refine And.intro ⟨_,rfl,?_⟩ ?_|refine And.intro ⟨_,_,rfl,rfl,?_⟩ ?_|exact Or.inr rfl|refine Or.inl ⟨?_,(by first|rfl|exact bD _ _|exact Pur.pf)⟩|rfl)
    ·refine awt_lift ?_
     repeat' (first|(apply aH;(apply aA (k := 50);rfl;exact hdr;exact Pur.pf;rfl))|refine aB ?_|fail)
     refine ⟨(bI j b,bI j l,m ++ [l[j]!],ln - 1,mn + 1,none),⟨And.intro (fun h => by cases h) (fun _ => ⟨x',L',k',hF',hk',hr'⟩),by dsimp only;omega,c9 h2,by dsimp only;omega,by dsimp only;omega,by simp [h5],by simp;omega⟩,by dsimp only;omega,?_,rfl⟩
     refine Le.ren [(0,0),(1,1),(2,2),(3,3),(4,7)] rfl (by decide) ?_ ?_ <;> repeat' (first|exact trivial|refine And.intro ⟨_,rfl,?_⟩ ?_|refine And.intro ⟨_,_,rfl,rfl,?_⟩ ?_|exact Or.inr rfl|refine Or.inl ⟨?_,(by first|rfl|exact bD _ _|exact Pur.pf)⟩|rfl)
  ·repeat' (first | refine aB ?_ | (refine dB ?_ ?_ <;> intro hg hq <;> try (exfalso; omega)) | refine dH ?_|fail)
   have e : j = k := AtS.uniq ⟨hj,hjx,fun h => absurd h hjn⟩ hk
   subst e
   show cC _ _ _ _ _ _
   refine aN (awt_lift ?_)
   repeat' (first|refine aB ?_|fail)
   show cC _ _ _ _ _ _
   refine aN (awt_lift ?_)
   repeat' (first|(apply aH;(apply o7;rfl;rfl;rfl;(rfl);(apply uD <;> (first|assumption|omega));rfl;rfl))|refine aB ?_|fail)
   show cC _ _ _ _ _ _
   have d1 := bR (k := j) (xs := b) hj
   have d2 := bR (k := j) (xs := l) (by omega)
   have d3 := eX b j
   rcases hr.inv with ⟨hF',e1,e2⟩ | ⟨x',L',k',hF',hk',hr'⟩
   ·refine aZ ?_
    refine aS (l1 := [_,_]) ?_
    repeat' (first|refine aO ?_|fail)
    refine ⟨rfl,?_⟩
    refine aM rfl (.cons (.pur PurV.pf) (.cons (.pur PurV.pf) .nil)) hdt rfl ?_
    rintro _ _ ⟨a4,d4,B4,a5,d5,B5,rfl,rfl⟩
    refine aS (l1 := [_]) (l2 := []) ?_
    repeat' (first|refine aO ?_|fail)
    refine ⟨rfl,aK ?_⟩
    refine ⟨(bI j b,bI j l,m ++ [l[j]!],ln - 1,mn + 1,some ((a4,d4,B4),(a5,d5,B5))),⟨And.intro (fun _ => ⟨hF',e1,e2⟩) (fun h => by cases h),by dsimp only;omega,c9 h2,by dsimp only;omega,by dsimp only;omega,by simp [h5],by simp;omega⟩,by dsimp only;omega,?_,rfl⟩
    refine Le.ren [(0,0),(1,1),(2,2),(3,3),(4,7)] rfl (by decide) ?_ ?_ <;> repeat' (first|exact trivial|refine And.intro ⟨_,rfl,?_⟩ ?_|refine And.intro ⟨_,_,rfl,rfl,?_⟩ ?_|exact Or.inr rfl|refine Or.inl ⟨?_,(by first|rfl|exact bD _ _|exact Pur.pf)⟩|rfl)
   ·refine awt_lift ?_
    repeat' (first|(apply aH;(apply aA (k := 50);rfl;exact hdr;exact Pur.pf;rfl))|refine aB ?_|fail)
    refine ⟨(bI j b,bI j l,m ++ [l[j]!],ln - 1,mn + 1,none),⟨And.intro (fun h => by cases h) (fun _ => ⟨x',L',k',hF',hk',hr'⟩),by dsimp only;omega,c9 h2,by dsimp only;omega,by dsimp only;omega,by simp [h5],by simp;omega⟩,by dsimp only;omega,?_,rfl⟩
    refine Le.ren [(0,0),(1,1),(2,2),(3,3),(4,7)] rfl (by decide) ?_ ?_ <;> repeat' (first|exact trivial|refine And.intro ⟨_,rfl,?_⟩ ?_|refine And.intro ⟨_,_,rfl,rfl,?_⟩ ?_|exact Or.inr rfl|refine Or.inl ⟨?_,(by first|rfl|exact bD _ _|exact Pur.pf)⟩|rfl)
end Go.Proofs.YtgkalkgplcdnkaaGreat
