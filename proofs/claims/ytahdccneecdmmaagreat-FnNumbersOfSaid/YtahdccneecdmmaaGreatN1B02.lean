/-
 A part of the proofs over this program: rules and contracts of its functions (the contracts).
-/
import Derived.Test.YtahdccneecdmmaaGreatN1B01
set_option linter.unusedVariables false
set_option linter.unusedSimpArgs false
set_option maxHeartbeats 8000000
set_option maxRecDepth 4000
attribute [local irreducible] Go.AL.RW Go.AL.AW Go.AL.Stop
namespace Go.Proofs.YtahdccneecdmmaaGreat
open Go.AL Go.RowKit
variable {N : Nat} {Q : Exit → AS → Prop} {all : Array Oper} {rest : List Oper} {tsl : List (Nat × AV)} {hsl : List (Nat × Option (List AV))} {nidl : Nat} {z0 : Lo} {md : Md} {d : Nat} {ty : TypeId} {pos : String} {af : Array Edge} {tys : Array TypeId}
def yG (s : ByteArray) (i : Int) (w : ByteArray) : Bool := decide (0 ≤ i) && (decide (i + w.size ≤ s.size) && ((s.extract i.toNat (i + w.size).toNat).toList == w.toList))
def EI (lo hi : Int) (s : ByteArray) (i : Int) : Int := if i < 0 then -1 else if (s.size : Int) ≤ i then -1 else if ((s[i.toNat]!).toNat : Int) < lo then -1 else if hi < ((s[i.toNat]!).toNat : Int) then -1 else ((s[i.toNat]!).toNat : Int) - lo
theorem nP (s:ByteArray) (i:Int) (w:ByteArray) (hs:s.size ≤ 1048576) (hw:w.size ≤ 1048576) (hi:i ≤ 1048576):PC Tryz.prog 254 [sv s,iv i,sv w] (fun r => r = bv (yG s i w)):=by
 refine aC Tryz.func254 Tryz.ntmps254 ?_
 repeat' (first|(apply aD;first|(apply g9;rfl;rfl;(rfl);rfl)|(apply zX;rfl;exact mK rfl (by omega);exact mK rfl (by omega);omega;rfl))|refine aE ?_|(refine bS ?_ ?_ <;> intro hg hq <;> try (exfalso;omega))|refine cS ?_|fail)
 all_goals (refine ⟨?_,rfl⟩; simp only [aP,AV.v.injEq,Value.bool.injEq,Value.int.injEq,true_and])
 ·unfold yG
  rw [decide_eq_true (by omega),decide_eq_true (by omega)]; rfl
 ·unfold yG
  rw [decide_eq_true (p := 0 ≤ i) (by omega),decide_eq_false (by omega)]; rfl
 ·unfold yG
  rw [decide_eq_false (by omega)]; rfl
theorem EF (s:ByteArray) (i:Int) (hs:s.size ≤ 1048576):PC Tryz.prog 278 [sv s,iv i] (fun r => r = iv (EI 97 122 s i)):=by
 have hb0 : ((s[i.toNat]!).toNat : Int) ≤ 255 := by have := (s[i.toNat]!).toNat_lt;omega
 refine aC Tryz.func278 Tryz.ntmps278 ?_
 repeat' (first|(apply aD;first|(apply lT;rfl;rfl;omega;rfl)|(apply yC;rfl;rfl;omega;rfl))|refine aE ?_|(refine aM ?_ ?_ <;> intro hc hq <;> try (exfalso;omega))|(refine bS ?_ ?_ <;> intro hg hq <;> try (exfalso;omega))|refine cS ?_|fail)
 all_goals (refine ⟨?_,rfl⟩; simp only [aP,AV.v.injEq,Value.bool.injEq,Value.int.injEq,true_and])
 all_goals (unfold EI;repeat' split)
 all_goals (first|rfl|omega)
theorem Aq (s:ByteArray) (i:Int) (hs:s.size ≤ 1048576):PC Tryz.prog 280 [sv s,iv i] (fun r => r = iv (EI 48 57 s i)):=by
 have hb0 : ((s[i.toNat]!).toNat : Int) ≤ 255 := by have := (s[i.toNat]!).toNat_lt;omega
 refine aC Tryz.func280 Tryz.ntmps280 ?_
 repeat' (first|(apply aD;first|(apply lT;rfl;rfl;omega;rfl)|(apply yC;rfl;rfl;omega;rfl))|refine aE ?_|(refine aM ?_ ?_ <;> intro hc hq <;> try (exfalso;omega))|(refine bS ?_ ?_ <;> intro hg hq <;> try (exfalso;omega))|refine cS ?_|fail)
 all_goals (refine ⟨?_,rfl⟩; simp only [aP,AV.v.injEq,Value.bool.injEq,Value.int.injEq,true_and])
 all_goals (unfold EI;repeat' split)
 all_goals (first|rfl|omega)
def QP (s : ByteArray) (i : Int) (r : AV) : Prop := ∃ (x : AL.Stmt) (nx : Int),r = .tup [cX x,iv nx] ∧ ((nx = -1 ∧ (bJ x : Int) ≤ s.size + 1) ∨ (i < nx ∧ nx ≤ s.size + 3 ∧ (bJ x : Int) ≤ nx - i))
def QB (s : ByteArray) (i : Int) (r : AV) : Prop := ∃ (l : List AL.Stmt) (nx : Int),r = .tup [sl aH l,iv nx] ∧ ((nx = -1 ∧ l = []) ∨ (0 ≤ i ∧ i + 2 ≤ nx ∧ nx ≤ s.size ∧ (aK l : Int) ≤ nx - i))
def QL (s : ByteArray) (i : Int) (r : AV) : Prop := ∃ (l : List AL.Stmt) (nx : Int),r = .tup [sl aH l,iv nx] ∧ ((nx = -1 ∧ l = []) ∨ (i ≤ nx ∧ nx ≤ s.size ∧ (aK l : Int) ≤ nx - i))
theorem gC {s w:ByteArray}{i:Int}(h:yG s i w = true):0 ≤ i ∧ i + w.size ≤ s.size:=by
 unfold yG at h;simp only [Bool.and_eq_true,decide_eq_true_eq] at h;exact ⟨h.1,h.2.1⟩
theorem IW {s:ByteArray}{i op x y n nx:Int}(h:nx = -1 ∨ (i < nx ∧ nx ≤ s.size + 3)):QP s i (.tup [.agg [iv op,iv x,iv y,iv n,.imm 0 [],.imm 0 []],iv nx]) :=
 ⟨.mk op x y n [] [],nx,rfl,by simp only [bJ,aK]; omega⟩
theorem IX {s:ByteArray}{i op x y n nx:Int}{th:List AL.Stmt}(h:(nx = -1 ∧ (aK th:Int) ≤ s.size) ∨ (i < nx ∧ nx ≤ s.size + 3 ∧ (aK th:Int) + 1 ≤ nx - i)):QP s i (.tup [.agg [iv op,iv x,iv y,iv n,sl aH th,.imm 0 []],iv nx]) :=
 ⟨.mk op x y n th [],nx,rfl,by simp only [bJ,aK]; omega⟩
theorem IY {s:ByteArray}{i op x y n nx:Int}{th el:List AL.Stmt}(h:(nx = -1 ∧ (aK th:Int) + aK el ≤ s.size) ∨ (i < nx ∧ nx ≤ s.size + 3 ∧ (aK th:Int) + aK el + 1 ≤ nx - i)):QP s i (.tup [.agg [iv op,iv x,iv y,iv n,sl aH th,sl aH el],iv nx]) :=
 ⟨.mk op x y n th el,nx,rfl,by simp only [bJ]; omega⟩
theorem QP.pur {s:ByteArray}{i:Int}{r:AV}(h:QP s i r):r.pur = true := by obtain ⟨x,nx,rfl,_⟩ := h;exact Pur.pf
theorem QB.pur {s:ByteArray}{i:Int}{r:AV}(h:QB s i r):r.pur = true := by obtain ⟨x,nx,rfl,_⟩ := h;exact Pur.pf
theorem QL.pur {s:ByteArray}{i:Int}{r:AV}(h:QL s i r):r.pur = true := by obtain ⟨x,nx,rfl,_⟩ := h;exact Pur.pf
theorem nS {P:Program}{s:AS}{res:Array ResultVar}{q:AV → Prop}{l:List AV}(hQ:∀ r,q r → r.pur = true) (hr:vK P (lk s.ts) (aN s.hs) res.toList = some l) (h:q (aP l)):kY P res (fun r _ => q r ∧ r.pur = true) .ret s := aB hr ⟨h,hQ _ h⟩
theorem sV (s:ByteArray) (i dp:Int) (hs:s.size ≤ 100000) (hi0:0 ≤ i) (hi:i ≤ s.size) (hd0:0 ≤ dp) (hd:dp ≤ 10) (braces_ih:∀ j dj:Int,dj = dp - 1 → -1 ≤ j → j ≤ s.size + 10 → PC Tryz.prog 279 [sv s,iv j,iv dj] (QB s j)):PC Tryz.prog 255 [sv s,iv i,iv dp] (QP s i):=by
 have h1 : yG s i ⟨#[100,114,111,112,32]⟩ = true → i + 5 ≤ s.size := fun h => (gC h).2
 have h2 : yG s i ⟨#[108,111,111,112,123]⟩ = true → i + 5 ≤ s.size := fun h => (gC h).2
 have h3 : yG s i ⟨#[105,102,123]⟩ = true → i + 3 ≤ s.size := fun h => (gC h).2
 have h4 : yG s i ⟨#[42]⟩ = true → i + 1 ≤ s.size := fun h => (gC h).2
 have h5 : yG s (i + 1) ⟨#[61]⟩ = true → i + 1 + 1 ≤ s.size := fun h => (gC h).2
 have h6 : yG s (i + 2) ⟨#[98,111,120,32]⟩ = true → i + 2 + 4 ≤ s.size := fun h => (gC h).2
 have h7 : yG s (i + 2) ⟨#[38,109,117,116,32]⟩ = true → i + 2 + 5 ≤ s.size := fun h => (gC h).2
 refine aC Tryz.func255 Tryz.ntmps255 ?_
 repeat' (first|(apply aD;(first|(apply aA (k := 254);rfl;(apply nP <;> (first|omega|decide));(rfl);rfl)|(apply aA (k := 278);rfl;(apply EF <;> (omega));(rfl);rfl)|(apply cV (k := 279);rfl;(apply braces_ih <;> (omega));(rfl);rfl;(rintro _ ⟨l,nx,rfl,hql⟩ _))|(apply aA (k := 280);rfl;(apply Aq <;> (omega));(rfl);rfl)))|refine aE ?_|(refine aM ?_ ?_ <;> intro hc hq <;> try (exfalso;omega))|(refine bS ?_ ?_ <;> intro hg hq <;> try (exfalso;omega))|fail)
 all_goals refine nS (fun _ => QP.pur) (l := [.agg [_,_,_,_,_,_],_]) rfl ?_
 all_goals (try have b1 := h1 (by assumption))
 all_goals (try have b2 := h2 (by assumption))
 all_goals (try have b3 := h3 (by assumption))
 all_goals (try have b4 := h4 (by assumption))
 all_goals (try have b5 := h5 (by assumption))
 all_goals (try have b6 := h6 (by assumption))
 all_goals (try have b7 := h7 (by assumption))
 all_goals clear h1 h2 h3 h4 h5 h6 h7
 all_goals first
  | (refine IW ?_; omega)
  | skip
 ·refine IX (th := l) ?_
  rcases hql with ⟨h8,h9⟩|hql
  ·rw [h9]; simp only [aK]; omega
  ·omega
 ·rename_i l1 nx1 hql1 hpu1 hpu2
  refine IY (th := l1) (el := l) ?_
  rcases hql1 with ⟨h8,h9⟩|hql1 <;> rcases hql with ⟨h10,h11⟩|hql
  ·rw [h9,h11]; simp only [aK]; omega
  ·omega
  ·rw [h11]; simp only [aK]; omega
  ·omega
theorem qG (s:ByteArray) (i dp:Int) (hs:s.size ≤ 100000) (hi0:-1 ≤ i) (hi:i ≤ s.size + 10) (hd0:-1 ≤ dp) (hd:dp ≤ 10) (list_ih:∀ j dj:Int,0 ≤ dp → dj = dp → 0 ≤ j → j ≤ s.size → PC Tryz.prog 217 [sv s,iv j,iv dj] (QL s j)):PC Tryz.prog 279 [sv s,iv i,iv dp] (QB s i):=by
 have h1 : yG s i ⟨#[123]⟩ = true → 0 ≤ i ∧ i + 1 ≤ s.size := fun h => gC h
 refine aC Tryz.func279 Tryz.ntmps279 ?_
 repeat' (first|(apply aD;(apply aA (k := 254);rfl;(apply nP <;> (first|omega|decide));(rfl);rfl))|refine aE ?_|(refine aM ?_ ?_ <;> intro hc hq <;> try (exfalso;omega))|(refine bS ?_ ?_ <;> intro hg hq <;> try (exfalso;omega))|fail)
 ·refine aS (Le.nilImm (d := 6) rfl) ?_
  exact nS (fun _ => QB.pur) (l := [.imm 0 [],iv (-1)]) rfl ⟨[],-1,rfl,.inl ⟨rfl,rfl⟩⟩
 ·have b1 := h1 (by assumption)
  repeat' (first|(apply aD;(first|(apply cV (k := 217);rfl;(apply list_ih <;> (first|assumption|omega));(rfl);rfl;(rintro _ ⟨l,nx,rfl,hql⟩ _))|(apply aA (k := 254);rfl;(apply nP <;> (first|omega|decide));(rfl);rfl)))|refine aE ?_|(refine aM ?_ ?_ <;> intro hc hq <;> try (exfalso;omega))|fail)
  ·refine aS (Le.nilImm (d := 6) rfl) ?_
   exact nS (fun _ => QB.pur) (l := [.imm 0 [],iv (-1)]) rfl ⟨[],-1,rfl,.inl ⟨rfl,rfl⟩⟩
  ·have b2 : 0 ≤ nx ∧ nx + 1 ≤ s.size := gC (w := ⟨#[125]⟩) (by assumption)
   exact nS (fun _ => QB.pur) (l := [sl aH l,iv (nx + 1)]) rfl ⟨l,nx + 1,rfl,by omega⟩
 ·refine aS (Le.nilImm (d := 6) rfl) ?_
  exact nS (fun _ => QB.pur) (l := [.imm 0 [],iv (-1)]) rfl ⟨[],-1,rfl,.inl ⟨rfl,rfl⟩⟩
theorem y9 (s:ByteArray) (i dp:Int) (hs:s.size ≤ 100000) (hi0:0 ≤ i) (hi:i ≤ s.size) (hd0:0 ≤ dp) (hd:dp ≤ 10) (parse_ih:∀ j dj:Int,dj = dp → 0 ≤ j → j ≤ s.size → PC Tryz.prog 255 [sv s,iv j,iv dj] (QP s j)):PC Tryz.prog 217 [sv s,iv i,iv dp] (QL s i):=by
 refine aC Tryz.func217 Tryz.ntmps217 ?_
 repeat' (first|(apply aD;(apply aA (k := 254);rfl;(apply nP <;> (first|omega|decide));(rfl);rfl))|refine aE ?_|(refine aM ?_ ?_ <;> intro hc hq <;> try (exfalso;omega))|(refine bS ?_ ?_ <;> intro hg hq <;> try (exfalso;omega))|fail)
 rotate_left 1
 ·refine aL (σ := Int × List AL.Stmt × Nat) [0, 2] [] (fun k => [(1, iv k.1), (8, .own 0 0 k.2.2 6)]) (fun k => [(0, some (flat aH k.2.1))]) (fun k => i ≤ k.1 ∧ k.1 ≤ s.size ∧ k.2.2 = k.2.1.length ∧ (aK k.2.1 : Int) ≤ k.1 - i) (fun k => (s.size - k.1).toNat) (i, [], 0) ⟨by omega, by omega, rfl, by simp [aK]⟩ ?_
  rintro ⟨k,xs,m⟩ ⟨hk0,hk,hm,hc⟩
  dsimp only at hk0 hk hm hc ⊢
  have hln := cN xs
  repeat' (first|(apply aD;first|(apply aJ (t := _);rfl;rfl;rfl;(exact (rfl:_=some [_,_,_,_,_,_]));rfl;rfl)|(first|(apply aA (k := 254);rfl;(apply nP <;> (first|omega|decide));(rfl);rfl)|(apply cV (k := 255);rfl;(apply parse_ih <;> (first|assumption|omega));(rfl);rfl;(rintro _ ⟨x,nx,rfl,hqx⟩ _))))|refine aE ?_|(refine aM ?_ ?_ <;> intro hc hq <;> try (exfalso;omega))|(refine bS ?_ ?_ <;> intro hg hq <;> try (exfalso;omega))|fail)
  ·refine aS (Le.nilImm (d := 6) rfl) ?_
   exact nS (fun _ => QL.pur) (l := [.imm 0 [],iv (-1)]) rfl ⟨[],-1,rfl,.inl ⟨rfl,rfl⟩⟩
  ·refine aS (Le.frzD (d := 6) (i := 3) rfl rfl) ?_
   refine nS (fun _ => QL.pur) (l := [.imm (m + 1) (flat aH (xs ++ [x])),iv nx]) rfl ⟨xs ++ [x],nx,?_,?_⟩
   ·show AV.tup [AV.imm (m + 1) _, _] = AV.tup [AV.imm (List.length (xs ++ [x])) _, _]
    rw [List.length_append,hm]; rfl
   ·rw [dJ]; simp only [aK]; omega
  ·have b2 : 0 ≤ nx ∧ nx + 1 ≤ s.size := gC (w := ⟨#[59]⟩) (by assumption)
   (refine bX (nx + 1,xs ++ [x],m + 1) (Le.renA [(0,3)]) ?_ ?_)
   ·dsimp only
    refine ⟨by omega,by omega,by simp [hm],?_⟩
    rw [dJ]; simp only [aK]; omega
   ·dsimp only;omega
  ·refine aS (Le.nilImm (d := 6) rfl) ?_
   exact nS (fun _ => QL.pur) (l := [.imm 0 [],iv (-1)]) rfl ⟨[],-1,rfl,.inl ⟨rfl,rfl⟩⟩
 ·refine aS (Le.frzD (d := 6) (i := 0) rfl rfl) ?_
  exact nS (fun _ => QL.pur) (l := [.imm 0 [],iv i]) rfl ⟨[],i,rfl,by simp only [aK]; omega⟩
 ·refine aS (Le.frzD (d := 6) (i := 0) rfl rfl) ?_
  exact nS (fun _ => QL.pur) (l := [.imm 0 [],iv i]) rfl ⟨[],i,rfl,by simp only [aK]; omega⟩
theorem tY (s:ByteArray) (hs:s.size ≤ 100000):∀ n:Nat,n ≤ 10 → (∀ j:Int,-1 ≤ j → j ≤ s.size + 10 → PC Tryz.prog 279 [sv s,iv j,iv ((n:Int) - 1)] (QB s j)) ∧ (∀ j:Int,0 ≤ j → j ≤ s.size → PC Tryz.prog 217 [sv s,iv j,iv (n:Int)] (QL s j))
 | 0, hn => by
  have hB : ∀ j : Int, -1 ≤ j → j ≤ s.size + 10 → PC Tryz.prog 279 [sv s, iv j, iv (((0 : Nat) : Int) - 1)] (QB s j) :=
   fun j h0 h1 => qG s j (((0 : Nat) : Int) - 1) hs h0 h1 (by omega) (by omega) (fun _ _ h => by omega)
  have hP : ∀ j : Int, 0 ≤ j → j ≤ s.size → PC Tryz.prog 255 [sv s, iv j, iv ((0 : Nat) : Int)] (QP s j) :=
   fun j h0 h1 => sV s j _ hs h0 h1 (by omega) (by omega) (fun k dj h2 h3 h4 => by subst h2;exact hB k h3 h4)
  exact ⟨hB,fun j h0 h1 => y9 s j _ hs h0 h1 (by omega) (by omega) (fun k dj h2 h3 h4 => by subst h2;exact hP k h3 h4)⟩
 | n + 1, hn => by
  have ih := tY s hs n (by omega)
  have e : (((n + 1 : Nat) : Int) - 1) = (n : Int) := by omega
  have hB : ∀ j : Int, -1 ≤ j → j ≤ s.size + 10 → PC Tryz.prog 279 [sv s, iv j, iv (((n + 1 : Nat) : Int) - 1)] (QB s j) :=
   fun j h0 h1 => qG s j _ hs h0 h1 (by omega) (by omega) (fun k dj h2 h3 h4 h5 => by rw [e] at h3;subst h3;exact ih.2 k h4 h5)
  have hP : ∀ j : Int, 0 ≤ j → j ≤ s.size → PC Tryz.prog 255 [sv s, iv j, iv ((n + 1 : Nat) : Int)] (QP s j) :=
   fun j h0 h1 => sV s j _ hs h0 h1 (by omega) (by omega) (fun k dj h2 h3 h4 => by subst h2;exact hB k h3 h4)
  exact ⟨hB,fun j h0 h1 => y9 s j _ hs h0 h1 (by omega) (by omega) (fun k dj h2 h3 h4 => by subst h2;exact hP k h3 h4)⟩
theorem EB (s:ByteArray) (i:Int) (hs:s.size ≤ 100000) (hi0:0 ≤ i) (hi:i ≤ s.size):PC Tryz.prog 217 [sv s,iv i,iv 4] (QL s i) := (tY s hs 4 (by omega)).2 i hi0 hi
theorem wZ (v:Int) (h0:0 ≤ v) (h1:v ≤ 25):PC Tryz.prog 285 [iv v] (fun r => r = sv (dW v)):=by
 refine aC Tryz.func285 Tryz.ntmps285 ?_
 repeat' (first|(apply aD;first|(apply Eu;rfl;rfl;omega;rfl)|(apply BC (ns := [_]);rfl;rfl;rfl)|(apply uU;rfl;omega;rfl))|refine aE ?_|refine cS ?_|fail)
 exact ⟨rfl,rfl⟩
theorem DL (n:Int) (h0:0 ≤ n) (h1:n ≤ 9):PC Tryz.prog 286 [iv n] (fun r => r = sv (w9 n)):=by
 refine aC Tryz.func286 Tryz.ntmps286 ?_
 repeat' (first|refine aE ?_|(refine aM ?_ ?_ <;> intro hc hq <;> try (exfalso;omega))|fail)
 refine aL (σ := Unit) [0,3] [] (fun u => []) (fun u => []) (fun u => True) (fun u => 0) () trivial ?_
 rintro u _
 repeat' (first|(apply aD;first|(apply g9;rfl;rfl;(rfl);rfl)|(apply BC (ns := [_]);rfl;rfl;rfl)|(apply uU;rfl;omega;rfl))|refine aE ?_|(refine aM ?_ ?_ <;> intro hc hq <;> try (exfalso;omega))|refine cS ?_|fail)
 exact ⟨rfl,rfl⟩
theorem yF (s:AL.Stmt) (hc:bJ s ≤ 10000) (hop:(s.op = 9 ∨ s.op = 10) ∨ (1 ≤ s.op ∧ s.op ≤ 8 ∧ 0 ≤ s.x ∧ s.x ≤ 5 ∧ 0 ≤ s.y ∧ s.y ≤ 5 ∧ (s.op = 1 ∨ s.op = 2 → 0 ≤ s.n ∧ s.n ≤ 9)))
  (hth : s.op = 9 ∨ s.op = 10 → PC Tryz.prog 256 [sl aH s.th] (fun r => r = sv (fL s.th))) (hel : s.op = 9 → PC Tryz.prog 256 [sl aH s.el] (fun r => r = sv (fL s.el))) : PC Tryz.prog 281 [cX s] (fun r => r = sv (iD s)) := by
 have k1 := gZ s.th
 have k2 := gZ s.el
 have k3 := dR s
 refine aC Tryz.func281 Tryz.ntmps281 ?_
 repeat' (first|(apply aD;first|(apply g9;rfl;rfl;(first|rfl|exact mM (by (simp only [ByteArray.size_append,kW,List.length_cons,List.length_nil,jH,jL,lM] <;> omega)));rfl)|(first|(apply aA (k := 256);rfl;(first|(apply hth;omega)|(apply hel;omega));exact Pur.pf;rfl)|(apply aA (k := 285);rfl;(apply wZ <;> (omega));(rfl);rfl)|(apply aA (k := 286);rfl;(apply DL <;> (omega));(rfl);rfl)))|refine aE ?_|(refine aM ?_ ?_ <;> intro hc hq <;> try (exfalso;omega))|refine cE ?_|refine cS ?_|fail)
 all_goals (refine ⟨?_,rfl⟩; rw [A3]; repeat' split)
 all_goals (first|rfl|omega)
theorem uB (l:List AL.Stmt) (hc:aK l ≤ 10000) (text_ih:∀ k,k < l.length → PC Tryz.prog 281 [cX l[k]!] (fun r => r = sv (iD l[k]!))):PC Tryz.prog 256 [sl aH l] (fun r => r = sv (fL l)):=by
 have hlen := cN l
 refine aC Tryz.func256 Tryz.ntmps256 ?_
 repeat' (first|refine aE ?_|fail)
 refine aL (σ := Nat × ByteArray) [0] [] (fun k => [(4,iv (k.1 : Int)),(3,sv k.2)]) (fun k => []) (fun k => k.1 ≤ l.length ∧ k.2 = fL (l.take k.1)) (fun k => l.length - k.1) (0,⟨#[]⟩) ⟨by omega,rfl⟩ ?_
 rintro ⟨k,t⟩ ⟨hk,ht⟩
 dsimp only at hk ht ⊢
 have k1 := gZ (l.take k)
 have k2 := mW l[k]!
 have hck := dM l k
 have hct : aK (l.take k) ≤ aK l := by have := dJ (l.take k) (l.drop k);rw [List.take_append_drop] at this;omega
 have k3 : t.size = (fL (l.take k)).size := by rw [ht]
 repeat' (first|(apply aD;first|(apply g9;rfl;rfl;(exact mM (by (first|omega|(simp only [ByteArray.size_append,kW,List.length_cons,List.length_nil,jH,jL,lM] <;> omega))));rfl)|(apply aA (k := 281);rfl;(apply text_ih <;> (omega));exact Pur.pf;rfl))|refine aE ?_|(refine aM ?_ ?_ <;> intro hc hq <;> try (exfalso;omega))|refine cS ?_|fail)
 ·(refine bX (k + 1, _) (Le.renA []) ?_ ?_)
  ·exact ⟨by dsimp only;omega,by dsimp only;rw [nE l k (by omega),l5,if_pos (by omega),ht]⟩
  ·dsimp only;omega
 ·(refine bX (k + 1, _) (Le.renA []) ?_ ?_)
  ·exact ⟨by dsimp only;omega,by dsimp only;rw [nE l k (by omega),l5,if_neg (by omega),ht]⟩
  ·dsimp only;omega
 ·have hke : k = l.length := by omega
  refine ⟨?_,rfl⟩
  rw [ht,hke,List.take_length]; rfl
theorem CZ (ts:List Int) (hts:a6 ts = true):∀ m:Nat,m ≤ 10000 → ∀ l d,aK l ≤ m → okL ts d l = true → PC Tryz.prog 256 [sl aH l] (fun r => r = sv (fL l)):=by
 intro m
 induction m with
 | zero =>
  intro hm l d hc ho
  have := cN l
  exact uB l (by omega) (fun k hk => by omega)
 | succ m ih =>
  intro hm l d hc ho
  refine uB l (by omega) (fun k hk => ?_)
  have hck := dM l k hk
  have hct := hO l[k]!
  have hs : oB ts d l[k]! = true := by rw [rF,fZ] at ho;exact ho k hk
  rw [y7] at hs
  by_cases h9 : l[k]!.op ≠ 9 ∧ l[k]!.op ≠ 10
  ·rw [if_pos h9] at hs
   simp only [Bool.and_eq_true] at hs
   exact yF _ (by omega) (.inr (Bl hts hs.2)) (fun h => by omega) (fun h => by omega)
  ·rw [if_neg h9] at hs
   cases d with
   | zero => cases hs
   | succ d =>
    simp only [Bool.and_eq_true] at hs
    exact yF _ (by omega) (.inl (by omega)) (fun h => ih (by omega) _ d (by omega) hs.1.2) (fun h => ih (by omega) _ d (by omega) hs.2)
theorem CJ (ts:List Int) (d:Nat) (l:List AL.Stmt) (hts:a6 ts = true) (hc:aK l ≤ 10000) (ho:okL ts d l = true):PC Tryz.prog 256 [sl aH l] (fun r => r = sv (fL l)) := CZ ts hts _ hc l d (Nat.le_refl _) ho
def wU (s : ByteArray) : List AV := [.v (.string s)]
instance : FlT wU 1:=⟨fun _ => rfl⟩
instance : FE wU (fun s => [.v (.string s)]):=⟨fun _ => rfl⟩
instance (s : ByteArray) : Pur (wU s):=⟨rfl⟩
theorem Le.slotEq {ts:List (Nat × AV)}{hs:List (Nat × Option (List AV))}{n:Nat}{z0:Lo}{d:Nat}(v v':AV) (hd:lk ts d = some v) (h:v = v'):Le ⟨ts,hs,n,z0⟩ ⟨(d,v') :: ts,hs,n,z0⟩ :=
 Le.slot hd fun w bad ι y hr => h ▸ hr
def kinds : List ByteArray := [⟨#[]⟩,⟨#[105]⟩,⟨#[98]⟩,⟨#[114]⟩,⟨#[109]⟩]
theorem wA (k:Nat):(kinds[k]!).size ≤ 1:=by
 match k with
 | 0 => decide
 | 1 => decide
 | 2 => decide
 | 3 => decide
 | 4 => decide
 | k + 5 => exact (show (default : ByteArray).size ≤ 1 from by decide)
theorem s9 (p:Prg) (hv:bK p = true):PC Tryz.prog 218 [bE p] (fun r => ∃ t,r = sv t):=by
 have hv2 := hv
 simp only [bK,Bool.and_eq_true,decide_eq_true_eq] at hv2
 obtain ⟨⟨hts,hol⟩,hcn⟩ := hv2
 have hl6 := eQ hts
 have htx := gZ p.body
 refine aC Tryz.func218 Tryz.ntmps218 ?_
 repeat' (first|refine aE ?_|fail)
 refine aL (σ := Nat × ByteArray) [1] [0] (fun k => [(4,iv (k.1 : Int)),(3,sv k.2)]) (fun k => []) (fun k => k.1 ≤ p.types.length ∧ k.2.size ≤ k.1) (fun k => p.types.length - k.1) (0,⟨#[]⟩) ⟨by omega,by show 0 ≤ 0;omega⟩ ?_
 rintro ⟨k,t⟩ ⟨hk,ht⟩
 dsimp only at hk ht ⊢
 have htk := iB hts k
 have hkz : (kinds[(p.types[k]!).toNat]!).size ≤ 1 := wA _
 have hkl : kinds.length = 5 := rfl
 repeat' (first|(apply aD;first|(with_reducible apply a5 (d := 14))|(apply aA (k := 256);rfl;exact CJ p.types 4 p.body hts (by omega) hol;exact Pur.pf;rfl)|(apply g9;rfl;rfl;(exact mM (by (simp only [ByteArray.size_append,kW,List.length_cons,List.length_nil,jH,jL,lM] <;> omega)));rfl)|(apply aJ (t := _);rfl;rfl;rfl;(exact (rfl:_=some [_,_,_,_,_]));rfl;rfl))|refine aE ?_|(refine aM ?_ ?_ <;> intro hc hq <;> try (exfalso;omega))|fail)
 ·refine b8 (fV ?_ (Le.slotEq (d := 13) _ (.imm 5 (flat wU kinds)) rfl rfl))
  repeat' (first|(apply aD;(apply g9;rfl;rfl;(exact mM (by (omega)));rfl))|refine aE ?_|fail)
  (refine bX (k + 1,_) (Le.renA [(0,0)]) ?_ ?_)
  ·exact ⟨by dsimp only;omega,by dsimp only;rw [ByteArray.size_append]; omega⟩
  ·dsimp only;omega
 ·refine aB rfl ⟨⟨_,rfl⟩,rfl⟩
theorem Dn {s:ByteArray}(b:Bool):(∃ (q:Prg) (b':Bool),AV.tup [AV.agg [.imm 0 [],.imm 0 []],bv b] = .tup [bE q,bv b'] ∧ aK q.body ≤ s.size + 10 ∧ q.types.length ≤ s.size + 10) :=
 ⟨⟨[],[]⟩,b,rfl,by simp [aK],by simp⟩
theorem iT (s:ByteArray) (hs:s.size ≤ 10000):PC Tryz.prog 166 [sv s] (fun r => ∃ (q:Prg) (b:Bool),r = .tup [bE q,bv b] ∧ aK q.body ≤ s.size + 10 ∧ q.types.length ≤ s.size + 10):=by
 refine aC Tryz.func166 Tryz.ntmps166 ?_
 repeat' (first|(apply aD;(with_reducible apply a5 (d := 13)))|refine aE ?_|(refine aM ?_ ?_ <;> intro hc hq <;> try (exfalso;omega))|fail)
 ·exact aB (l := [.agg [.imm 0 [],.imm 0 []],bv false]) rfl ⟨Dn false,rfl⟩
 refine b8 ?_
 apply n4
 case hl => rfl
 case hf => exact (rfl:_=some [AV.v (.slice none 0 0),AV.v (.slice none 0 0)])
 case hN => rfl
 repeat' (first|refine aE ?_|fail)
 apply AW.le
 case k => exact Le.nilCell (i := 1) 1 [] rfl (by decide) (by decide)
 refine aL (σ := Nat × List Int × Nat) [0,2,4] [0] (fun k => [(5,iv (k.1 : Int))]) (fun k => [(1,some [.own 2 0 k.2.2 1,.v (.slice none 0 0)]),(2,some (flat cI k.2.1))]) (fun k => k.1 ≤ s.size ∧ k.2.1.length = k.1 ∧ k.2.2 = k.2.1.length) (fun k => s.size - k.1) (0,[],0) ⟨by omega,rfl,rfl⟩ ?_
 rintro ⟨k,xs,m⟩ ⟨hk,hxl,hm⟩
 dsimp only at hk hxl hm ⊢
 repeat' (first|(apply aD;first|(with_reducible apply a5 (d := 43))|(apply lT;rfl;rfl;omega;rfl)|(apply aJ (t := _);rfl;rfl;rfl;exact (rfl:_=some [_]);rfl;rfl))|refine aE ?_|(refine aM ?_ ?_ <;> intro hc hq <;> try (exfalso;omega))|(refine bS ?_ ?_ <;> intro hg hq <;> try (exfalso;omega))|fail)
 ·(refine bX (k + 1, xs ++ [1], m + 1) (Le.renA [(0, 0), (1, 1), (2, 4)]) ?_ ?_)
  ·exact ⟨by dsimp only;omega,by simp [hxl],by simp [hm]⟩
  ·dsimp only;omega
 ·(refine bX (k + 1, xs ++ [2], m + 1) (Le.renA [(0, 0), (1, 1), (2, 4)]) ?_ ?_)
  ·exact ⟨by dsimp only;omega,by simp [hxl],by simp [hm]⟩
  ·dsimp only;omega
 ·(refine bX (k + 1, xs ++ [3], m + 1) (Le.renA [(0, 0), (1, 1), (2, 4)]) ?_ ?_)
  ·exact ⟨by dsimp only;omega,by simp [hxl],by simp [hm]⟩
  ·dsimp only;omega
 ·(refine bX (k + 1, xs ++ [4], m + 1) (Le.renA [(0, 0), (1, 1), (2, 4)]) ?_ ?_)
  ·exact ⟨by dsimp only;omega,by simp [hxl],by simp [hm]⟩
  ·dsimp only;omega
 ·(refine bX (k + 1, xs ++ [0], m + 1) (Le.renA [(0, 0), (1, 1), (2, 4)]) ?_ ?_)
  ·exact ⟨by dsimp only;omega,by simp [hxl],by simp [hm]⟩
  ·dsimp only;omega
 all_goals subst hm
 all_goals (refine b8 (fV ?_ (Le.frzC (j := 1) (i := 2) [] rfl rfl (by decide))))
 all_goals repeat' (first|(apply aD;first|(apply cV (k := 217);rfl;(apply EB <;> omega);(rfl);rfl;(rintro _ ⟨l,nx,rfl,hql⟩ _))|(apply aA (k := 61);rfl;(exact nQ ⟨xs,l⟩ (by show xs.length ≤ _; omega) (by show aK l ≤ 100000000;rcases hql with ⟨_,h9⟩|h9;(rw [h9]; decide);omega));exact Pur.pf;rfl)|(apply cV (k := 218);rfl;exact s9 ⟨xs,l⟩ (by assumption);exact Pur.pf;rfl;(rintro _ ⟨t,rfl⟩ _))|(apply g9;rfl;rfl;(rfl);rfl))|refine aE ?_|(refine aM ?_ ?_ <;> intro hc hq <;> try (exfalso;omega))|(refine bS ?_ ?_ <;> intro hg hq <;> try (exfalso;omega))|fail)
 all_goals first
  | exact aB (l := [.agg [.imm 0 [],.imm 0 []],bv false]) rfl ⟨Dn false,rfl⟩
  | (refine aB (l := [.agg [.imm xs.length (flat cI xs), sl aH l], bv true]) rfl ⟨⟨⟨xs, l⟩, true, rfl, ?_, by show xs.length ≤ _; omega⟩, Pur.pf⟩
     show aK l ≤ _
     rcases hql with ⟨_,h9⟩|h9
     ·rw [h9]; simp [aK]
     ·omega)
class NumS (cs : List AV) (xs : outParam (List ByteArray)) : Prop where h : cs = flat wU xs
instance NumS.nil : NumS [] []:=⟨rfl⟩
instance NumS.cons {n : ByteArray} {cs : List AV} {xs : List ByteArray} [h : NumS cs xs] : NumS (.v (.string n) :: cs) (n :: xs):=⟨by rw [h.h]; rfl⟩
theorem CX {cs:List AV}{xs:List ByteArray}{m:Nat}(h:NumS cs xs) (hm:m = xs.length) (hs:xs.all (fun s => decide (s.size ≤ 600)) = true):∃ ys:List ByteArray,AV.imm m cs = sl wU ys ∧ ys.length = m ∧ ∀ i:Nat,(ys[i]!).size ≤ 600:=by
 refine ⟨xs,by rw [h.h,hm],hm.symm,fun i => ?_⟩
 by_cases hi : i < xs.length
 ·rw [List.all_eq_true] at hs
  rw [aY _ _ hi]
  simpa using hs _ (List.getElem_mem hi)
 ·rw [getElem!_neg xs i hi]; decide
theorem pR:PC Tryz.prog 165 [] (fun r => ∃ ys:List ByteArray,r = sl wU ys ∧ ys.length = 25 ∧ ∀ i:Nat,(ys[i]!).size ≤ 600):=by
 refine aC Tryz.func165 Tryz.ntmps165 ?_
 repeat' (first|(apply aD;(apply aJ (t := _);rfl;rfl;rfl;exact (rfl:_=some [_,_,_,_,_,_,_,_,_,_,_,_,_,_,_,_,_,_,_,_,_,_,_,_,_]);rfl;rfl))|refine aE ?_|fail)
 refine nS (l := [.imm 25 [_,_,_,_,_,_,_,_,_,_,_,_,_,_,_,_,_,_,_,_,_,_,_,_,_]]) ?_ rfl ?_
 ·rintro _ ⟨ys,rfl,_⟩; exact bZ _ _
 ·exact CX inferInstance rfl (by decide)
theorem eE {P:Program}{N:Nat}{Q:Exit → AS → Prop}{all:Array Oper}{rest:List Oper}{ts:List (Nat × AV)}{hs:List (Nat × Option (List AV))}{n:Nat}{z0:Lo}{ty:TypeId}{pos:String}{af:Array Edge}{d:Nat}{args:Array Operand}{tys:Array TypeId}
  {k : FuncId} {pv : List AV} {p0 : Prg × Nat → Prop} {i p : Nat} {bs : List UInt8} (h : MC P k (.optr 0 0 :: pv) [(0,some (cK bs p))] 1 p0 (fun x => bE x.1) (fun x => [(0,some (cK bs x.2))])) [hc : CaT P k] (ha : evL (lk ts) args.toList = some (.optr i 0 :: pv)) (hpv : aZ pv = true)
  (hH : aN hs i = some (cK bs p)) (hM : Nat.ble (n + 0) aU = true) (hN : Nat.blt d N = true) (kk : ∀ x,p0 x → RW P N all Q .txt rest ⟨(d,bE x.1) :: ts,(i,some (cK bs x.2)) :: hs,n + 0,z0⟩) :
  RW P N all Q .txt (⟨some d,.call ⟨.value (.func k),args,tys⟩,ty,pos,af,none⟩ :: rest) ⟨ts,hs,n,z0⟩ :=
 sZ (σ := Prg × Nat) [i] 1 (fun x : Prg × Nat => [(i, some (cK bs x.2))]) h ha rfl ⟨⟨_, _, rfl, hH, RnL.purI inferInstance⟩, trivial⟩ rfl (RnL.cons (RnV.optr rfl) (RnL.pur hpv)) (by simpa using hM)
  (fun x _ => RnV.purI inferInstance) (fun x _ => by simp [mB]) (fun x _ => ⟨⟨0,_,rfl,rfl,RnL.purI inferInstance⟩,trivial⟩) hN kk
theorem oP (bs:List UInt8) (p:Nat) (xs:List Int) (lo hi:Int) (h0:0 < xs.length) (h:xs.all (fun x => decide (lo ≤ x) && decide (x ≤ hi)) = true):lo ≤ eA bs p xs ∧ eA bs p xs ≤ hi:=by
 have h1 := cR bs p (xs.length : Int)
 rw [fZ] at h
 have := h (aW bs p (xs.length : Int)).toNat (by omega)
 simp only [Bool.and_eq_true,decide_eq_true_eq] at this
 exact this
theorem B3 (bs:List UInt8) (p:Nat) (hb:bs.length ≤ 2000) (hp:p ≤ 1000):MC Tryz.prog 94 [.optr 0 0] [(0,some (cK bs p))] 1 (fun x:Prg × Nat => aK x.1.body ≤ 620 ∧ x.1.types.length ≤ 620 ∧ x.2 ≤ 2000) (fun x => bE x.1) (fun x => [(0,some (cK bs x.2))]):=by
 have h0 := cR bs p 25
 have hn := oP bs (p + 1 + 1) [5,4,7,3,8] 0 8 (by decide) (by decide)
 refine aQ Tryz.func94 Tryz.ntmps94 ?_
 repeat' (first|(apply aD;first|(apply cV (k := 165);rfl;exact pR;(rfl);rfl;(rintro _ ⟨ys,rfl,hyl,hsz⟩ _);(have hpk := cR bs p (ys.length : Int)))|(apply cV (k := 166);rfl;exact iT _ (Nat.le_trans (hsz _) (by decide));(rfl);rfl;(rintro _ ⟨q,b,rfl,hqc,hqt⟩ _))|(apply qE (ts := [1,2,2,3,4,4]);rfl;rfl;rfl;rfl;rfl;(apply Cy <;> (first|assumption|omega));rfl;rfl)|(apply aJ (t := _);rfl;rfl;rfl;(exact (rfl:_=some [_,_,_,_,_,_]));rfl;rfl)|(first|(apply fR;rfl;rfl;(rfl);(apply iJ <;> (first|assumption|omega));rfl;rfl)|(apply g7;rfl;rfl;rfl;rfl;infer_instance;rfl;(rfl);assumption;omega;(decide);(decide);rfl;rfl)))|refine aE ?_|(refine aM ?_ ?_ <;> intro hc hq <;> try (exfalso;omega))|(refine bS ?_ ?_ <;> intro hg hq <;> try (exfalso;omega))|refine cE ?_|fail)
 ·have h9 := hsz (aW bs p (ys.length : Int)).toNat
  refine aB rfl ?_
  exact aO (q,p + 1 + 1) ⟨by dsimp only;omega,by dsimp only;omega,by dsimp only;omega⟩ rfl ⟨.inr rfl,trivial⟩
 ·have h9 := D6 bs (d := 2) (by omega) (eA bs (p + 1 + 1) [5, 4, 7, 3, 8]) (p + 1 + 1 + 1)
  have h10 := sA bs (d := 2) (by omega) (eA bs (p + 1 + 1) [5,4,7,3,8]) (p + 1 + 1 + 1)
  refine aB rfl ?_
  exact aO ((⟨[1,2,2,3,4,4],(cC bs 2 (eA bs (p + 1 + 1) [5,4,7,3,8]) (p + 1 + 1 + 1)).1⟩ : Prg),(cC bs 2 (eA bs (p + 1 + 1) [5,4,7,3,8]) (p + 1 + 1 + 1)).2) ⟨by dsimp only;omega,by show 6 ≤ 620;decide,by dsimp only;omega⟩ rfl ⟨.inr rfl,trivial⟩
 ·have h9 := hsz (aW bs p (ys.length : Int)).toNat
  refine aB rfl ?_
  exact aO (q,p + 1 + 1) ⟨by dsimp only;omega,by dsimp only;omega,by dsimp only;omega⟩ rfl ⟨.inr rfl,trivial⟩
theorem gX {bs:List UInt8}{x0:Operand}(ha0:ev (lk tsl) x0 = some (sl cU bs)) (hmc:MC Tryz.prog 51 [sl cU bs] [] 0 (fun _:Unit => True) (fun _ => .optr 0 0) (fun _ => [(0,some (cK (bs.take 2000) 0))])) (hM:Nat.ble (nidl + 1) aU = true) (hN:Nat.blt d N = true){md':Md}[hmd:MdA md (dV [x0] ++ []) (List.map Sum.inr (List.map Prod.fst ([(nidl,some (cK (bs.take 2000) 0))]:List (Nat × Option (List AV)))) ++ [.inl d]) md'] (kk:RW Tryz.prog N all Q md' rest ⟨(d,.optr nidl 0) :: tsl,eS hsl [(nidl,some (cK (bs.take 2000) 0))],nidl + 1,z0⟩):RW Tryz.prog N all Q md (⟨some d,.call ⟨.value (.func 51),#[x0],tys⟩,ty,pos,af,none⟩ :: rest) ⟨tsl,hsl,nidl,z0⟩:=by
 exact aT (l := [x0]) [] 1 [(nidl,some (cK (bs.take 2000) 0))] hmc (avs := [sl cU bs]) (by simp only [evL,ha0]) rfl hM hN (md' := md') (hmd := hmd) kk
theorem jE (bs:List UInt8) (hb:bs.length ≤ 1048576):MC Tryz.prog 51 [sl cU bs] [] 0 (fun _:Unit => True) (fun _ => .optr 0 0) (fun _ => [(0,some (cK (bs.take 2000) 0))]) := F4 bs hb
theorem oC (p:Prg) (xs:List Int) (hl:p.types.length ≤ 1048576) (hs:aK p.body ≤ 1048576) (hx:xs.length ≤ 10):PC Tryz.prog 72 [bE p,sl cI xs] (fun r => r = if bK p = true ∧ (∀ j,j < xs.length → 0 ≤ xs[j]! ∧ xs[j]! < (aR p).length) then .tup [aG p.types p.body (aR p),bv true] else .tup [.v (.pointer none),bv false]):=by
 have hpl := kG p
 have hnl := gT p.body
 refine aC Tryz.func72 Tryz.ntmps72 ?_
 repeat' (first|(apply aD;(first|(apply aA (k := 39);rfl;(apply nI <;> (first|assumption|omega));exact Pur.pf;rfl)|(apply aA (k := 80);rfl;(apply oM <;> (assumption));exact Pur.pf;rfl)))|refine aE ?_|(refine aM ?_ ?_ <;> intro hc hq <;> try (exfalso;omega))|refine cE ?_|fail)
 ·refine aB rfl ⟨?_, (by (rfl))⟩
  rw [if_neg (by simp [hq])]; rfl
 ·refine aL (σ := Nat) [6, 17, 18] [1] (fun k => [(19, iv (k : Int))]) (fun k => []) (fun k => k ≤ xs.length ∧ ∀ j, j < k → 0 ≤ xs[j]! ∧ xs[j]! < (aR p).length) (fun k => xs.length - k) (0) ⟨by omega, by omega⟩ ?_
  rintro k ⟨hk,hall⟩
  repeat' (first|(apply aD;(apply aA (k := 54);rfl;(apply bQ);(rfl);rfl))|refine aE ?_|(refine aM ?_ ?_ <;> intro hc hq <;> try (exfalso;omega))|fail)
  ·refine aB rfl ⟨?_, (by (rfl))⟩
   rw [if_neg (fun h => by have := h.2 k (by omega);omega)]; rfl
  ·(refine bX (k + 1) (Le.renA [(1, 1)]) ?_ ?_)
   ·exact ⟨by omega, fun j hj => by
     by_cases e : j = k
     ·subst e;omega
     ·exact hall j (by omega)⟩
   ·omega
  ·refine aS (Le.frzP (d := 4) (i := 1) rfl rfl) ?_
   refine aB rfl ⟨?_,(by show (AV.tup [aG p.types p.body (aR p),bv true]).pur = true;exact PurV.pf)⟩
   rw [if_pos ⟨by assumption,fun j hj => hall j (by omega)⟩]; rfl
def nV (p : Prg) (i : Int) : Prop := bK p = true ∧ 0 ≤ i ∧ i < (aR p).length
theorem pL (p:Prg) (i:Int) (hl:p.types.length ≤ 1048576) (hs:aK p.body ≤ 1048576) (h:nV p i):PC Tryz.prog 72 [bE p,.imm 1 [iv i]] (fun r => r = .tup [aG p.types p.body (aR p),bv true]):=by
 have := oC p [i] hl hs (by simp)
 rw [if_pos ⟨h.1, fun j hj => by obtain rfl : j = 0 := by simpa using hj
                                 exact h.2⟩] at this
 exact this
theorem A1 (p:Prg) (i:Int) (hl:p.types.length ≤ 1048576) (hs:aK p.body ≤ 1048576) (h:¬ nV p i):PC Tryz.prog 72 [bE p,.imm 1 [iv i]] (fun r => r = .tup [.v (.pointer none),bv false]):=by
 have := oC p [i] hl hs (by simp)
 rw [if_neg (fun q => h ⟨q.1,q.2 0 (by simp)⟩)] at this
 exact this
theorem yR (ts:List Int) (bd:List AL.Stmt) (pts:List Pnt) (v:Int) (htl:ts.length ≤ 1048576):PC Tryz.prog 73 [aG ts bd pts,iv v] (fun r => r = bv (decide (0 ≤ v ∧ v < ts.length))):=by
 refine aC Tryz.func73 Tryz.ntmps73 ?_
 repeat' (first|(apply aD;(apply aA (k := 54);rfl;(apply bQ);(rfl);rfl))|refine aE ?_|fail)
 refine aB rfl ⟨?_,rfl⟩
 simp only [aP]
 congr 1
 rw [← Bool.decide_and,decide_eq_decide]
 omega
theorem sR (p:Prg) (hl:p.types.length ≤ 1048576) (hs:aK p.body ≤ 1048576):PC Tryz.prog 151 [bE p] (fun r => r = sl bM (if bK p = true then aR p else [])):=by
 have hval := nQ p hl (by omega)
 have h2 := j1 p hs
 refine aC Tryz.func151 Tryz.ntmps151 ?_
 repeat' (first|(apply aD;first|(apply aA (k := 61);rfl;exact hval;exact Pur.pf;rfl)|(apply aA (k := 132);rfl;exact h2;exact Pur.pf;rfl)|(apply aJ (t := _);rfl;rfl;rfl;(rfl);rfl;rfl))|refine aE ?_|(refine aM ?_ ?_ <;> intro hc hq <;> try (exfalso;omega))|fail)
 ·refine aB rfl ⟨?_, (by (rfl))⟩
  rw [if_neg (by simp [hq])]; rfl
 ·refine aB rfl ⟨?_, (by (exact bZ _ _))⟩
  rw [if_pos hq]; rfl
theorem tQ (xs:List Bool) (hl:xs.length ≤ 1048576):PC Tryz.prog 78 [sl cB xs] (fun r => r = sl cI (D3 xs xs.length)):=by
 refine aC Tryz.func78 Tryz.ntmps78 ?_
 repeat' (first|refine aE ?_|fail)
 refine aL (σ := Nat × List Int × Nat) [0] [] (fun k => [(4,iv (k.1 : Int)),(3,.own 0 0 k.2.2 1)]) (fun k => [(0,some (flat cI k.2.1))]) (fun k => k.1 ≤ xs.length ∧ k.2.1 = D3 xs k.1 ∧ k.2.2 = k.2.1.length ∧ k.2.2 ≤ k.1) (fun k => xs.length - k.1) (0,[],0) ⟨by omega,rfl,rfl,Nat.le_refl _⟩ ?_
 rintro ⟨k,u,m⟩ ⟨hk,hu,hm,hmk⟩
 dsimp only at hk hu hm hmk ⊢
 repeat' (first|(apply aD;(apply aJ (t := _);rfl;rfl;rfl;exact (rfl:_=some [_]);rfl;rfl))|refine aE ?_|(refine aM ?_ ?_ <;> intro hc hq <;> try (exfalso;omega))|fail)
 ·(refine bX (k + 1, u ++ [(k : Int)], m + 1) (Le.renA [(0, 2)]) ?_ ?_)
  ·exact ⟨by dsimp only;omega,by dsimp only;rw [hu]; exact (Fc (by assumption)).symm,by simp;omega,by dsimp only;omega⟩
  ·dsimp only;omega
 ·(refine bX (k + 1, u, m) (Le.renA [(0, 0)]) ?_ ?_)
  ·exact ⟨by dsimp only;omega,by dsimp only;rw [hu]; exact (Dc (by assumption)).symm,hm,by dsimp only;omega⟩
  ·dsimp only;omega
 ·(refine aS (Le.frzD (d := 2) (i := 0) rfl rfl) ?_; refine aB rfl ?_)
  refine ⟨?_,(by (exact bZ _ _))⟩
  simp only [aP,sl]
  rw [hm,hu,show k = xs.length by omega]
theorem Cn (L:List Int) (hl:L.length ≤ 1048576):PC Tryz.prog 21 [sl cI L,sl cI L] (fun r => r = bv true):=by
 refine aC Tryz.func21 Tryz.ntmps21 ?_
 repeat' (first|refine aE ?_|(refine aM ?_ ?_ <;> intro hc hq <;> try (exfalso;omega))|fail)
 ·exact (hq trivial).elim
 refine aL (σ := Nat) [0,1] [] (fun k => [(5,iv (k : Int))]) (fun k => []) (fun k => k ≤ L.length) (fun k => L.length - k) (0) (by omega) ?_
 rintro k hk
 repeat' (first|refine aE ?_|(refine aM ?_ ?_ <;> intro hc hq <;> try (exfalso;omega))|refine cE ?_|fail)
 ·exfalso
  simp at hq
 ·(refine bX (k + 1) (Le.renA []) ?_ ?_)
  ·omega
  ·omega
 ·exact aB rfl ⟨rfl,rfl⟩
theorem GN (L:List Int) (n:Int) (hl:L.length ≤ 1048576):PC Tryz.prog 29 [sl cI L,iv n] (fun r => r = bv (decide (n ∈ L))):=by
 refine aC Tryz.func29 Tryz.ntmps29 ?_
 repeat' (first|refine aE ?_|fail)
 refine aL (σ := Nat) [0,1] [] (fun k => [(5,iv (k : Int))]) (fun k => []) (fun k => k ≤ L.length ∧ ∀ j,j < k → L[j]! ≠ n) (fun k => L.length - k) (0) ⟨by omega,by omega⟩ ?_
 rintro k ⟨hk,hall⟩
 repeat' (first|refine aE ?_|(refine aM ?_ ?_ <;> intro hc hq <;> try (exfalso;omega))|fail)
 ·refine aB rfl ⟨?_, rfl⟩
  simp only [aP]
  rw [decide_eq_true (by have h := aV L k (by omega);rw [hq] at h;exact h)]
 ·(refine bX (k + 1) (Le.renA []) ?_ ?_)
  ·exact ⟨by omega, fun j hj => by
    by_cases e : j = k
    ·subst e;exact hq
    ·exact hall j (by omega)⟩
  ·omega
 ·refine aB rfl ⟨?_, rfl⟩
  simp only [aP]
  rw [decide_eq_false (fun h => by
   obtain ⟨j,hj,e⟩ := List.getElem_of_mem h
   exact hall j (by omega) (by rw [aY _ _ hj]; exact e))]
theorem mZ {stk:List Tg}{id:Int}(h:0 ≤ bR stk id):∀ k < (bR stk id).toNat,stk[k]!.id ≠ id:=by
 unfold bR at h ⊢
 split
 ·rename_i k hk
  obtain ⟨h1,h2,h3⟩ := List.findIdx?_eq_some_iff_getElem.1 hk
  rw [Int.toNat_natCast]
  intro j hj he
  have := h3 j hj
  rw [aY _ _ (by omega)] at he
  simp [he] at this
 ·rename_i hk;rw [hk] at h;dsimp only at h;omega
theorem zI {stk:List Tg}{id:Int}{i:Nat}(hi:i < stk.length) (h:stk[i]!.id = id) (hn:∀ k < i,stk[k]!.id ≠ id):bR stk id = (i:Int):=by
 have hb := eW stk id
 by_cases hneg : bR stk id < 0
 ·have := pY.1 hneg stk[i]! (by rw [aY _ _ hi]; exact List.getElem_mem hi)
  exact absurd h this
 ·have ha := Ea (stk := stk) (id := id) (by omega)
  have hf := mZ (stk := stk) (id := id) (by omega)
  rcases Nat.lt_trichotomy (bR stk id).toNat i with h1|h1|h1
  ·exact absurd ha (hn _ h1)
  ·omega
  ·exact absurd h (hf _ h1)
theorem x8 (c:Cl):OkC c ↔ (0 ≤ c.val ∧ c.val ≤ 9) ∧ (1 ≤ c.next ∧ c.next ≤ 1000) ∧ (1 ≤ c.stk.length ∧ c.stk.length ≤ 200) ∧ c.stk[0]!.uq = true ∧ (∀ k < c.stk.length,0 ≤ c.stk[k]!.id ∧ c.stk[k]!.id < c.next ∧ bR c.stk c.stk[k]!.id = (k:Int)):=by
 constructor
 ·intro h
  refine ⟨h.v,h.n,h.l,h.u,fun k hk => ?_⟩
  have h1 := h.i c.stk[k]! (by rw [aY _ _ hk]; exact List.getElem_mem hk)
  refine ⟨h1.1,h1.2,zI hk rfl (fun j hj he => ?_)⟩
  have hd := List.nodup_iff_pairwise_ne.1 h.d |> List.pairwise_iff_getElem.1
  have := hd j k (by rw [List.length_map]; omega) (by rw [List.length_map]; omega) hj
  simp only [List.getElem_map] at this
  rw [aY _ _ (by omega),aY _ _ hk] at he
  exact this he
 ·rintro ⟨h1, h2, h3, h4, h5⟩
  refine ⟨h1,h2,h3,h4,fun t ht => ?_,?_⟩
  ·obtain ⟨k, hk, rfl⟩ := List.getElem_of_mem ht
   have := h5 k hk;rw [aY _ _ hk] at this
   exact ⟨this.1,this.2.1⟩
  ·rw [List.nodup_iff_pairwise_ne, List.pairwise_iff_getElem]
   intro i j hi hj hij he
   rw [List.length_map] at hi hj
   simp only [List.getElem_map] at he
   have a := (h5 i hi).2.2
   have b := (h5 j hj).2.2
   rw [aY _ _ hi] at a;rw [aY _ _ hj,← he,a] at b
   omega
instance (c : Cl) : Decidable (OkC c) := decidable_of_iff _ (x8 c).symm
theorem eU (m:List Cl):OkM m ↔ m.length ≤ 200 ∧ ∀ k < m.length,OkC m[k]!:=by
 constructor
 ·exact fun h => ⟨h.l,fun k hk => h.c _ (by rw [aY _ _ hk]; exact List.getElem_mem hk)⟩
 ·exact fun h => ⟨h.1,fun c hc => by obtain ⟨k,hk,rfl⟩ := List.getElem_of_mem hc;have := h.2 k hk;rwa [aY _ _ hk] at this⟩
instance (m : List Cl) : Decidable (OkM m) := decidable_of_iff _ (eU m).symm
theorem mR (k:Int):PC Tryz.prog 201 [iv k] (fun r => r = iv (eX k)):=by
 refine aC Tryz.func201 Tryz.ntmps201 ?_
 repeat' (first|refine aE ?_|(refine aM ?_ ?_ <;> intro hc hq <;> try (exfalso;omega))|refine cS ?_|fail)
 all_goals (refine ⟨?_,rfl⟩; simp only [aP,AV.v.injEq,Value.bool.injEq,Value.int.injEq,true_and])
 all_goals grind [eX]
theorem DR {xs:List Tg}{m:Nat}{a:Int}{b:Bool}(hm:m = xs.length):((flat bV xs).drop 0).take (m * 2) ++ [iv a,bv b] = flat bV (xs ++ [⟨a,b⟩]) := gM hm rfl
theorem z8 {α}{p:α → Bool}{a:α}(h:p a = true):[a].filter p = [a] := by simp [h]
theorem qA {α}{p:α → Bool}{a:α}(h:p a = false):[a].filter p = [] := by simp [h]
theorem F1 {m:List Cl}{x:Pt}{wr:Bool}(h:x.cell < 0 ∨ (m.length:Int) ≤ x.cell):a8 m x wr = 4:=by
 unfold a8;rw [if_pos (by omega)]
theorem GA {m:List Cl}{x:Pt}{wr:Bool}(h:0 ≤ x.cell) (h2:x.cell < m.length) (h3:m[x.cell.toNat]!.alive = false):a8 m x wr = 1:=by
 unfold a8;rw [if_neg (by omega),if_pos h3]
theorem Hm {m:List Cl}{x:Pt}{wr:Bool}(h:0 ≤ x.cell) (h2:x.cell < m.length) (h3:m[x.cell.toNat]!.alive = true) (h4:bR m[x.cell.toNat]!.stk x.tag < 0):a8 m x wr = 2:=by
 unfold a8;rw [if_neg (by omega),if_neg (by rw [h3]; decide),if_pos h4]
theorem yV {m:List Cl}{x:Pt}(h:0 ≤ x.cell) (h2:x.cell < m.length) (h3:m[x.cell.toNat]!.alive = true) (h4:0 ≤ bR m[x.cell.toNat]!.stk x.tag):a8 m x false = 0:=by
 unfold a8;rw [if_neg (by omega),if_neg (by rw [h3]; decide),if_neg (by omega),if_neg (by intro q;exact absurd q.1 (by decide))]
theorem ES {m:List Cl}{x:Pt}:a8 m x true = if a8 m x false = 0 then (if m[x.cell.toNat]!.stk[(bR m[x.cell.toNat]!.stk x.tag).toNat]!.uq = false then 3 else 0) else a8 m x false:=by
 unfold a8
 split
 ·rw [if_neg (by decide)]
 ·split
  ·rw [if_neg (by decide)]
  ·split
   ·rw [if_neg (by decide)]
   ·rw [if_neg (c := false = true ∧ _) (by intro q; exact absurd q.1 (by decide)), if_pos rfl]
    simp only [true_and]
theorem e5 {m:List Cl}{x:Pt}{wr:Bool}(h:a8 m x wr = 0):0 ≤ x.cell ∧ x.cell < m.length ∧ m[x.cell.toNat]!.alive = true ∧ 0 ≤ bR m[x.cell.toNat]!.stk x.tag ∧ (wr = true → m[x.cell.toNat]!.stk[(bR m[x.cell.toNat]!.stk x.tag).toNat]!.uq = true):=by
 unfold a8 at h
 split at h
 ·omega
 ·split at h
  ·omega
  ·split at h
   ·omega
   ·split at h
    ·omega
    ·rename_i a b c d
     refine ⟨by omega,by omega,by simpa using b,by omega,fun hw => ?_⟩
     by_cases q : m[x.cell.toNat]!.stk[(bR m[x.cell.toNat]!.stk x.tag).toNat]!.uq = false
     ·exact absurd ⟨hw,q⟩ d
     ·simpa using q
theorem G0 {xs:List Cl}{k:Nat}{s:List Tg}(hk:k < xs.length):fA (flat bP xs) (0 + k * 4 + 3) [sl bV s] = flat bP (xs.set k { xs[k]! with stk := s }) := dA hk (by simp) rfl
theorem iK {α:Type}{f:α → List AV}{xs:List α}{n:Nat}(h:n = xs.length):AV.imm n (flat f xs) = sl f xs := by subst h;rfl
theorem set_set {α:Type}{l:List α}{i:Nat}{a b:α}:(l.set i a).set i b = l.set i b := by simp
theorem mJ {α:Type}[Inhabited α] {l:List α}{i:Nat}{a:α}(h:i < l.length):(l.set i a)[i]! = a := by rw [aY _ _ (by rw [List.length_set]; exact h),List.getElem_set_self]
def oK (m : List Cl) (j : Nat) (r : List Tg) : Prop := r.length = 200 ∨ m[j]!.next = 1000
instance (m : List Cl) (j : Nat) (r : List Tg) : Decidable (oK m j r) := by unfold oK;infer_instance
def kJ (m b : List Cl) (j : Nat) (u : Bool) (r : List Tg) : List Cl := if oK m j r then b else m.set j (psh { m[j]! with stk := r } u)
def mC (m : List Cl) (j : Nat) (r : List Tg) : Pt := if oK m j r then ⟨0,0⟩ else ⟨j,m[j]!.next⟩
def k6 (m : List Cl) (j : Nat) (r : List Tg) : Int := if oK m j r then 4 else 0
theorem yZ {m:List Cl}{x:Pt}{u:Bool}{r:List Tg}(hk:a8 m x u = 0) (hr:r = gQ m[x.cell.toNat]!.stk (bR m[x.cell.toNat]!.stk x.tag).toNat u):u6 m x u = k6 m x.cell.toNat r ∧ AT m x u = kJ m m x.cell.toNat u r ∧ DY m x u = mC m x.cell.toNat r:=by
 obtain ⟨h1,h2,_⟩ := e5 hk
 subst hr
 have e : u6 m x u = k6 m x.cell.toNat (gQ m[x.cell.toNat]!.stk (bR m[x.cell.toNat]!.stk x.tag).toNat u) := by
  unfold u6;rw [if_pos hk]; rfl
 refine ⟨e,?_,?_⟩
 ·unfold AT kJ
  rw [e]; unfold k6
  split
  ·rw [if_neg (by decide)]
  ·rw [if_pos rfl]; rfl
 ·unfold DY mC
  rw [e]; unfold k6
  split
  ·rw [if_neg (by decide)]
  ·rw [if_pos rfl,Int.toNat_of_nonneg h1]
theorem HJ {m:List Cl}{x:Pt}{u:Bool}(hk:a8 m x u ≠ 0):u6 m x u = a8 m x u ∧ AT m x u = m ∧ DY m x u = ⟨0,0⟩:=by
 have e : u6 m x u = a8 m x u := by unfold u6;rw [if_neg hk]
 exact ⟨e,by unfold AT;rw [if_neg (by rw [e]; exact hk)],by unfold DY;rw [if_neg (by rw [e]; exact hk)]⟩
theorem zH {xs:List Sl}{k:Nat}{a:Bool}{b c d:Int}(hk:k < xs.length):fA (flat cJ xs) (0 + k * 4) [bv a,iv b,iv c,iv d] = flat cJ (xs.set k ⟨a,b,⟨c,d⟩⟩) := gK hk rfl
theorem DM {ts:List Int}{n v:Nat}{q:Mc}(h:¬ (ts[v]! = 2 ∧ q.slots[v]!.set = true)):b9 ts (n + 1) v q = b9 ts n (v + 1) q:=by
 rw [b9,if_neg h]
theorem Ga {ts:List Int}{n v:Nat}{q:Mc}(h:ts[v]! = 2 ∧ q.slots[v]!.set = true) (hk:a8 q.cells q.slots[v]!.ptr true = 0):b9 ts (n + 1) v q = b9 ts n (v + 1) ⟨q.slots.set v qH,l4 q.cells q.slots[v]!.ptr,q.read⟩:=by
 rw [b9,if_pos h,if_pos hk]
theorem Hi {ts:List Int}{n v:Nat}{q:Mc}(h:ts[v]! = 2 ∧ q.slots[v]!.set = true) (hk:¬ a8 q.cells q.slots[v]!.ptr true = 0):b9 ts (n + 1) v q = (⟨q.slots,l4 q.cells q.slots[v]!.ptr,q.read⟩,eX (a8 q.cells q.slots[v]!.ptr true)):=by
 rw [b9,if_pos h,if_neg hk]
def wm (pts : List Pnt) (n a : Nat) (cs : List Int) : List Int × Bool := ((dS pts n a cs).1.map (fun a : Nat => (a : Int)),(dS pts n a cs).2)
theorem Hz {pts:List Pnt}{n a:Nat}{cs:List Int}(h:pts[a]!.op = 11):wm pts n a cs = ([(a:Int)],true):=by
 have e : dS pts n a cs = ([a],true) := by cases n <;> (unfold dS;rw [if_pos h])
 unfold wm;rw [e]; rfl
theorem Hc {pts:List Pnt}{a:Nat}{cs:List Int}(h:¬ pts[a]!.op = 11):wm pts 0 a cs = ([],false):=by
 have e : dS pts 0 a cs = ([],false) := by unfold dS;rw [if_neg h]
 unfold wm;rw [e]; rfl
theorem Io {pts:List Pnt}{n a:Nat}{cs:List Int}(h:¬ pts[a]!.op = 11):wm pts (n + 1) a cs = ((a:Int) :: (wm pts n (fQ pts a cs).1 (fQ pts a cs).2).1,(wm pts n (fQ pts a cs).1 (fQ pts a cs).2).2):=by
 unfold wm;rw [dS,if_neg h]; rfl
theorem H6 {pts:List Pnt}{a:Nat}{cs:List Int}(h:¬ pts[a]!.next.length = 2):fQ pts a cs = ((pts[a]!.next[0]!).toNat,cs):=by
 unfold fQ;rw [if_neg h]
theorem E8 {pts:List Pnt}{n a:Nat}{out cs cs2:List Int}{b:Nat}{q:List Int × Bool}(h:¬ pts[a]!.op = 11) (ho:out.length < n) (hs:fQ pts a cs = (b,cs2)) (hq:q = (out ++ (wm pts (n - out.length) a cs).1,(wm pts (n - out.length) a cs).2)) :
  q = ((out ++ [(a : Int)]) ++ (wm pts (n - (out ++ [(a : Int)]).length) b cs2).1,(wm pts (n - (out ++ [(a : Int)]).length) b cs2).2) := by
 rw [hq,show n - out.length = (n - (out.length + 1)) + 1 by omega,Io h,hs,List.length_append,List.append_assoc]
 rfl
theorem gI {ts:List Int}{s:Mc}{v:Nat}{y:Sl}:(bO ts s v y).1.read = s.read := by unfold bO;split <;> rfl
theorem DB {ts:List Int}{s:Mc}{x:Pnt}(h:x.op ≠ 11):(dD ts s x).1.read.length ≤ s.read.length + 1:=by
 unfold dD
 split
 ·rw [gI]; omega
 split
 ·split
  ·dsimp only;omega
  ·rw [gI]; dsimp only;omega
 split
 ·rw [gI]; split <;> (first|omega|(dsimp only;omega))
 split
 ·split
  ·rw [gI]; dsimp only;omega
  ·dsimp only;omega
 split
 ·split
  ·rw [gI]; dsimp only;rw [List.length_append]; simp only [List.length_singleton]; omega
  ·dsimp only;omega
 split
 ·dsimp only;omega
 split
 ·dsimp only;omega
 dsimp only;omega
theorem C5 {ts:List Int}{pts:List Pnt}(w:WG ts pts) (A:WA ts pts):∀ n a cs,a < pts.length → ∀ x ∈ (dS pts n a cs).1,x < pts.length
 | 0, a, cs, ha, x, hx => by
  unfold dS at hx
  by_cases e : pts[a]!.op = 11
  ·rw [if_pos e] at hx;rw [List.mem_singleton.1 hx]; exact ha
  ·rw [if_neg e] at hx;exact absurd hx (by simp)
 | n + 1, a, cs, ha, x, hx => by
  rw [dS] at hx
  by_cases e : pts[a]!.op = 11
  ·rw [if_pos e] at hx;rw [List.mem_singleton.1 hx]; exact ha
  ·rw [if_neg e] at hx
   rcases List.mem_cons.1 hx with h|h
   ·rw [h]; exact ha
   ·have he := tS w A ha e cs
    have := w.nx a ha _ he.2
    exact C5 w A n _ _ (by omega) x h
theorem qX {pts:List Pnt}:∀ n a cs,(dS pts n a cs).1.length ≤ n + 1
 | 0,a,cs => by unfold dS;split <;> simp
 | n + 1, a, cs => by
  rw [dS]; split
  ·simp
  ·have := qX (pts := pts) n (fQ pts a cs).1 (fQ pts a cs).2
   dsimp only;rw [List.length_cons]; omega
def DZ (p : Prg) (most : Int) : Bool := bK p && (decide (0 ≤ most) && decide (most ≤ 150))
theorem BF {p:Prg}{cs:List Int}{n:Nat}(hv:bK p = true):OkS p.types.length (iF p.types (aR p) cs n).1:=by
 have wa := WA.of_valid hv
 have hp : ∀ a : Nat, PtN (aR p)[a]! := fun a => by
  by_cases h : a < (aR p).length
  ·exact ⟨fun e => (wa.a a h).n (.inr e)⟩
  ·refine ⟨fun e => ?_⟩
   rw [sU,dif_neg h] at e
   exact absurd e (by decide)
 exact OkS.run hp _ _ _ (OkS.mc0 _)
theorem tI {ts:List Int}{s:Mc}{x:Pnt}:(dD ts s x).1.read.length ≤ s.read.length + 1:=by
 by_cases h : x.op = 11
 ·rw [zT h,oO]; omega
 ·exact DB h
theorem pM (ts:List Int) (pts:List Pnt):∀ (l:List Nat) (s:Mc) (last:Nat),(fO ts pts l s last).1.read.length ≤ s.read.length + l.length
 | [],s,last => by unfold fO;simp
 | a :: l, s, last => by
  have h := tI (ts := ts) (s := s) (x := pts[a]!)
  unfold fO;split
  ·dsimp only;omega
  ·split
   ·have := pM ts pts l (dD ts s pts[a]!).1 a
    rw [List.length_cons]; omega
   ·rw [List.length_cons]; dsimp only;omega
theorem wX {ts:List Int}{pts:List Pnt}{cs:List Int}{n:Nat}(hn:n ≤ 150):(iF ts pts cs n).1.read.length ≤ 151:=by
 have h := pM ts pts (dS pts n 0 cs).1 (mc0 ts.length) 0
 have h2 := qX (pts := pts) n 0 cs
 have h3 : (mc0 ts.length).read.length = 0 := rfl
 unfold iF;omega
theorem H4:Go.Proofs.Tryz.prog.underlying 280 = some (.map 3 4) := by kernel_rfl
theorem Ib:Go.Proofs.Tryz.prog.underlying 3 = some (.int .i64) := by kernel_rfl
theorem Ic:(Go.Proofs.Tryz.prog.info? 4).bind (·.zero) = some (.bool false) := by kernel_rfl
theorem HT {a b c:Int}(h:a ≤ b ∧ b ≤ c):(!(decide (a ≤ b) && decide (b ≤ c))) = false := by simp [h.1,h.2]
theorem eH (m:List Cl) (hm:OkM m):PC Tryz.prog 239 [sl bP m] (fun r => r = bv true):=by
 have hml := hm.l
 refine aC Tryz.func239 Tryz.ntmps239 ?_
 repeat' (first|refine aE ?_|(refine aM ?_ ?_ <;> intro hc hq <;> try (exfalso;omega))|fail)
 all_goals (try (exfalso;omega))
 refine aL (σ := Nat) [11,12] [] (fun i => [(13,iv (i : Int))]) (fun i => []) (fun i => i ≤ m.length) (fun i => m.length - i) (0) (Nat.zero_le _) ?_
 rintro i hi
 by_cases hin : i < m.length
 ·have hc := (eU m).1 hm |>.2 i hin
  obtain ⟨h1,h2,h3,h4,h5⟩ := (x8 _).1 hc
  repeat' (first|(apply aD;(apply aA (k := 54);rfl;(apply bQ);(rfl);rfl))|(apply zB;with_reducible apply C8)|refine aE ?_|(refine aM ?_ ?_ <;> intro hc hq <;> try (exfalso;omega))|(refine bS ?_ ?_ <;> intro hg hq <;> try (exfalso;omega))|fail)
  ·exfalso
   have hu : m[i]!.stk[Int.toNat 0]!.uq = false := by assumption
   rw [show Int.toNat 0 = 0 from rfl,h4] at hu;exact absurd hu (by decide)
  ·refine F5 (Cq rfl (fun r => ?_))
   refine uD ?_
   repeat' (first|refine Du ?_|fail)
   refine ⟨rfl,rfl,?_⟩
   refine hZ (k7 ?_)
   repeat' (first|refine aE ?_|fail)
   show mT _ _ _ _ _ _ _
   refine pH ?_
   refine AN (σ := Nat) [4,5,11,12,13,44,45] [(4,_),(5,_),(11,_),(12,_),(13,_),(44,_),(45,_)] [0] [(0,some _)] (fun k => [(46,iv (k : Int))]) (fun k => []) (fun k => (m[i]!.stk.take k).map (·.id)) (fun k => k ≤ m[i]!.stk.length) (fun k => m[i]!.stk.length - k) (0) (Nat.zero_le _) (rfl) rfl rfl (by repeat' (first|exact trivial|refine And.intro rfl ?_)) (by repeat' (exact trivial)) ?_
   rintro k hk
   refine hZ (k7 ?_)
   repeat' (first|refine aE ?_|fail)
   show mT _ _ _ _ _ _ _
   refine hZ (sQ rfl (fun hb => tV ?_) (fun hb => Dv ?_))
   ·show mT _ _ _ _ _ _ _
    have hkl : k < m[i]!.stk.length := by have := of_decide_eq_true hb;omega
    obtain ⟨g1,g2,g3⟩ := h5 k hkl
    have hw := HT (a := 0) (b := m[i]!.stk[k]!.id) (c := m[i]!.next - 1) ⟨g1,by omega⟩
    have hni : m[i]!.stk[k]!.id ∉ (m[i]!.stk.take k).map (·.id) := fun q => by
     obtain ⟨t,ht,e⟩ := List.mem_map.1 q
     obtain ⟨j,hj,rfl⟩ := List.getElem_of_mem ht
     rw [List.length_take] at hj
     have f := mZ (stk := m[i]!.stk) (id := m[i]!.stk[k]!.id) (by omega) j (by omega)
     rw [aY _ _ (by omega)] at f
     rw [List.getElem_take] at e
     exact f e
    refine hZ (pH (hZ (k7 ?_)))
    repeat' (first|refine aE ?_|fail)
    show mT _ _ _ _ _ _ _
    refine hZ (hZ (nB ?_))
    refine tM (l1 := [_,_,_,_,_,_,_,_,_,_,_]) (l2 := [_,_]) ?_
    repeat' (first|(apply aD;(apply aA (k := 54);rfl;(apply bQ);(rfl);rfl))|refine Du ?_|fail)
    refine ⟨rfl,?_⟩
    refine Bp rfl rfl hw ?_
    refine xV H4 Ib Ic rfl rfl hni rfl ?_
    refine uD ?_
    repeat' (first|refine Du ?_|fail)
    refine ⟨rfl,?_⟩
    show mT _ _ _ _ _ _ _
    refine sQ rfl (fun h => by cases h) (fun _ => tV ?_)
    show mT _ _ _ _ _ _ _
    refine nB ?_
    refine tM (l1 := [_,_,_]) (l2 := [_]) ?_
    repeat' (first|refine Du ?_|fail)
    refine ⟨rfl,?_⟩
    refine vW H4 Ib Ic rfl rfl hni ?_
    refine Fj ?_
    show mT _ _ _ _ _ _ _
    refine k7 ?_
    repeat' (first|refine aE ?_|fail)
    refine ⟨k + 1,by omega,by omega,?_,?_⟩
    ·refine Le.ren [(0,0)] rfl (by decide) ?_ ?_ <;> repeat' (first|exact trivial|refine And.intro ⟨_,rfl,?_⟩ ?_|refine And.intro ⟨_,_,rfl,rfl,?_⟩ ?_|exact Or.inr rfl|refine Or.inl ⟨?_,(by first|rfl|exact bZ _ _|exact Pur.pf)⟩|rfl)
    ·rw [bD _ k hkl,List.map_append]; rfl
   ·have hkl : k = m[i]!.stk.length := by have := of_decide_eq_false hb; omega
    refine BH ?_
    show wV 1 _ _ _
    repeat' (first|refine aE ?_|fail)
    (refine bX (i + 1) (Le.renA []) ?_ ?_)
    ·omega
    ·omega
 ·repeat' (first | refine aE ?_ | (refine aM ?_ ?_ <;> intro hc hq <;> try (exfalso; omega))|fail)
  refine aB rfl ⟨rfl,rfl⟩
theorem Le.bump {ts:List (Nat × AV)}{hs:List (Nat × Option (List AV))}{n:Nat}{z0:Lo}(k:Nat):Le ⟨ts,hs,n,z0⟩ ⟨ts,hs,n + k,z0⟩ := Le.of (fun _ _ h => h) (fun _ _ h => h) (Nat.le_add_right _ _) rfl
theorem pD {m:List Cl}{x0:Operand}(ha0:ev (lk tsl) x0 = some (sl bP m)) (hmc:MC Tryz.prog 265 [sl bP m] [] 0 (fun _:Unit => True) (fun _ => .own 1 0 m.length 4) (fun _ => [(1,some (flat bP m))])) (hM:Nat.ble (nidl + 2) aU = true) (hN:Nat.blt d N = true){md':Md}[hmd:MdA md (dV [x0] ++ []) (List.map Sum.inr (List.map Prod.fst ([((nidl + 1),some (flat bP m))]:List (Nat × Option (List AV)))) ++ [.inl d]) md'] (kk:RW Tryz.prog N all Q md' rest ⟨(d,.own (nidl + 1) 0 m.length 4) :: tsl,eS hsl [((nidl + 1),some (flat bP m))],nidl + 2,z0⟩):RW Tryz.prog N all Q md (⟨some d,.call ⟨.value (.func 265),#[x0],tys⟩,ty,pos,af,none⟩ :: rest) ⟨tsl,hsl,nidl,z0⟩:=by
 exact aT (l := [x0]) [] 2 [((nidl + 1),some (flat bP m))] hmc (avs := [sl bP m]) (by simp only [evL,ha0]) rfl hM hN (md' := md') (hmd := hmd) kk
theorem uZ (m:List Cl) (hl:m.length ≤ 1048576):MC Tryz.prog 265 [sl bP m] [] 0 (fun _:Unit => True) (fun _ => .own 1 0 m.length 4) (fun _ => [(1,some (flat bP m))]):=by
 refine aQ Tryz.func265 Tryz.ntmps265 ?_
 repeat' (first|(apply aD;(apply uG;rfl;rfl;(intro b hb)))|refine aE ?_|(refine aM ?_ ?_ <;> intro hc hq <;> try (exfalso;omega))|fail)
 ·have h0 : m = [] := List.eq_nil_of_length_eq_zero (hb (by assumption))
  subst h0
  refine aS (Le.bump 1) ?_
  refine aS (Le.nilOwn (d := 2) 4 rfl (by decide)) ?_
  (refine aB rfl ?_; refine aO () trivial ?_ ⟨sE ?_,trivial⟩)
  ·rfl
  ·rfl
 ·(refine aB rfl ?_; refine aO () trivial ?_ ⟨sE ?_, trivial⟩)
  ·show AV.own 1 0 (0 + m.length) 4 = _; rw [Nat.zero_add]
  ·rfl
theorem lJ {m:List Tg}{x0:Operand}(ha0:ev (lk tsl) x0 = some (sl bV m)) (hmc:MC Tryz.prog 266 [sl bV m] [] 0 (fun _:Unit => True) (fun _ => .own 1 0 m.length 2) (fun _ => [(1,some (flat bV m))])) (hM:Nat.ble (nidl + 2) aU = true) (hN:Nat.blt d N = true){md':Md}[hmd:MdA md (dV [x0] ++ []) (List.map Sum.inr (List.map Prod.fst ([((nidl + 1),some (flat bV m))]:List (Nat × Option (List AV)))) ++ [.inl d]) md'] (kk:RW Tryz.prog N all Q md' rest ⟨(d,.own (nidl + 1) 0 m.length 2) :: tsl,eS hsl [((nidl + 1),some (flat bV m))],nidl + 2,z0⟩):RW Tryz.prog N all Q md (⟨some d,.call ⟨.value (.func 266),#[x0],tys⟩,ty,pos,af,none⟩ :: rest) ⟨tsl,hsl,nidl,z0⟩:=by
 exact aT (l := [x0]) [] 2 [((nidl + 1),some (flat bV m))] hmc (avs := [sl bV m]) (by simp only [evL,ha0]) rfl hM hN (md' := md') (hmd := hmd) kk
theorem vN (m:List Tg) (hl:m.length ≤ 1048576):MC Tryz.prog 266 [sl bV m] [] 0 (fun _:Unit => True) (fun _ => .own 1 0 m.length 2) (fun _ => [(1,some (flat bV m))]):=by
 refine aQ Tryz.func266 Tryz.ntmps266 ?_
 repeat' (first|(apply aD;(apply uG;rfl;rfl;(intro b hb)))|refine aE ?_|(refine aM ?_ ?_ <;> intro hc hq <;> try (exfalso;omega))|fail)
 ·have h0 : m = [] := List.eq_nil_of_length_eq_zero (hb (by assumption))
  subst h0
  refine aS (Le.bump 1) ?_
  refine aS (Le.nilOwn (d := 2) 2 rfl (by decide)) ?_
  (refine aB rfl ?_; refine aO () trivial ?_ ⟨sE ?_,trivial⟩)
  ·rfl
  ·rfl
 ·(refine aB rfl ?_; refine aO () trivial ?_ ⟨sE ?_, trivial⟩)
  ·show AV.own 1 0 (0 + m.length) 2 = _; rw [Nat.zero_add]
  ·rfl
theorem Dk (t:Tg) (c g:Int):PC Tryz.prog 268 [IU t,.iptr [iv c,iv g]] (fun r => r = bv (decide (t.id = g))):=by
 refine aC Tryz.func268 Tryz.ntmps268 ?_
 repeat' (first|refine aE ?_|fail)
 exact aB rfl ⟨rfl,rfl⟩
theorem uK (t:Tg):PC Tryz.prog 270 [IU t] (fun r => r = bv t.uq):=by
 refine aC Tryz.func270 Tryz.ntmps270 ?_
 repeat' (first|refine aE ?_|fail)
 exact aB rfl ⟨rfl,rfl⟩
theorem rY (stk:List Tg) (c g:Int) (hl:stk.length ≤ 1048576):PC Tryz.prog 267 [sl bV stk,.clos (.func 268) [] [.iptr [iv c,iv g]]] (fun r => r = iv (bR stk g)):=by
 refine aC Tryz.func267 Tryz.ntmps267 ?_
 repeat' (first|refine aE ?_|fail)
 refine aL (σ := Nat) [0,1,7] [] (fun k => [(8,iv (k : Int))]) (fun k => []) (fun k => k ≤ stk.length ∧ ∀ j,j < k → stk[j]!.id ≠ g) (fun k => stk.length - k) (0) ⟨by omega,by omega⟩ ?_
 rintro k ⟨hk,hall⟩
 by_cases hkn : k < stk.length
 ·have hcl := Dk stk[k]! c g
  repeat' (first|(apply aD;(apply iR;rfl;rfl;infer_instance;rfl;(apply hcl);(rfl);rfl))|refine aE ?_|(refine aM ?_ ?_ <;> intro hc hq <;> try (exfalso;omega))|fail)
  ·refine aB rfl ⟨?_, rfl⟩
   simp only [aP]; rw [zI hkn (by assumption) hall]
  ·(refine bX (k + 1) (Le.renA []) ?_ ?_)
   ·refine ⟨by omega, fun j hj => ?_⟩
    by_cases e : j = k
    ·subst e;assumption
    ·exact hall j (by omega)
   ·omega
 ·repeat' (first | refine aE ?_ | (refine aM ?_ ?_ <;> intro hc hq <;> try (exfalso; omega))|fail)
  refine aB rfl ⟨?_,rfl⟩
  have h2 : bR stk g < 0 := pY.2 (fun t ht => by obtain ⟨j,hj,rfl⟩ := List.getElem_of_mem ht;have := hall j (by omega);rwa [aY _ _ hj] at this)
  have hb := eW stk g
  simp only [aP]; rw [show bR stk g = -1 by omega]
def mD (xs : List Tg) : Int := match xs.findIdx? (fun t => t.uq) with | some i => i | none => -1
theorem Fe (stk:List Tg) (hl:stk.length ≤ 1048576):PC Tryz.prog 267 [sl bV stk,.v (.func (.func 270) #[] #[])] (fun r => r = iv (mD stk)):=by
 refine aC Tryz.func267 Tryz.ntmps267 ?_
 repeat' (first|refine aE ?_|fail)
 refine aL (σ := Nat) [0,1,7] [] (fun k => [(8,iv (k : Int))]) (fun k => []) (fun k => k ≤ stk.length ∧ ∀ j,j < k → stk[j]!.uq = false) (fun k => stk.length - k) (0) ⟨by omega,by omega⟩ ?_
 rintro k ⟨hk,hall⟩
 by_cases hkn : k < stk.length
 ·have hcl := uK stk[k]!
  repeat' (first|(apply aD;(apply iR;rfl;rfl;infer_instance;rfl;(apply hcl);(rfl);rfl))|refine aE ?_|(refine aM ?_ ?_ <;> intro hc hq <;> try (exfalso;omega))|fail)
  ·refine aB rfl ⟨?_, rfl⟩
   have hu : stk[k]!.uq = true := by assumption
   have : stk.findIdx? (fun t => t.uq) = some k := by
    rw [List.findIdx?_eq_some_iff_getElem]
    refine ⟨hkn,by rw [← aY stk k hkn]; exact hu,fun j hj => ?_⟩
    have := hall j hj;rw [aY stk j (by omega)] at this;rw [this]; decide
   simp only [aP,mD,this]
  ·have hu : stk[k]!.uq = false := by assumption
   (refine bX (k + 1) (Le.renA []) ?_ ?_)
   ·refine ⟨by omega, fun j hj => ?_⟩
    by_cases e : j = k
    ·subst e;exact hu
    ·exact hall j (by omega)
   ·omega
 ·repeat' (first | refine aE ?_ | (refine aM ?_ ?_ <;> intro hc hq <;> try (exfalso; omega))|fail)
  refine aB rfl ⟨?_,rfl⟩
  have : stk.findIdx? (fun t => t.uq) = none := by
   rw [List.findIdx?_eq_none_iff]
   intro x hx
   obtain ⟨j,hj,rfl⟩ := List.getElem_of_mem hx
   have := hall j (by omega);rw [aY stk j hj] at this;exact this
  simp only [aP,mD,this]
theorem H9 {xs:List Tg}{k:Nat}{a:Int}{b:Bool}(hk:k < xs.length):fA (flat bV xs) (0 + k * 2) [iv a,bv b] = flat bV (xs.set k ⟨a,b⟩) := gK hk rfl
theorem Ct {cs new:List AV}{k:Nat}(h:k ≤ cs.length):(fA cs (0 + k) new).take k = cs.take k:=by
 unfold fA
 rw [Nat.zero_add,List.append_assoc,List.take_left' (by rw [List.length_take]; omega)]
def shr (xs : List Tg) : List Tg := xs.filter (fun t => !t.uq)
theorem AD {xs:List Tg}(h:mD xs = -1):shr xs = xs:=by
 unfold mD at h
 split at h
 ·omega
 ·rename_i hn
  rw [List.findIdx?_eq_none_iff] at hn
  unfold shr
  rw [List.filter_eq_self]
  intro t ht
  have := hn t ht
  simp [this]
theorem Av {xs:List Tg}{i:Nat}(h:mD xs = (i:Int)):i < xs.length ∧ xs[i]!.uq = true ∧ shr (xs.take (i + 1)) = xs.take i:=by
 unfold mD at h
 split at h
 ·rename_i k hk
  obtain ⟨h1,h2,h3⟩ := List.findIdx?_eq_some_iff_getElem.1 hk
  have e : k = i := by omega
  subst e
  have hs : shr (xs.take k) = xs.take k := by
   unfold shr
   rw [List.filter_eq_self]
   intro t ht
   obtain ⟨j,hj,rfl⟩ := List.getElem_of_mem ht
   rw [List.length_take] at hj
   have := h3 j (by omega)
   rw [List.getElem_take]; simpa using this
  refine ⟨h1,by rw [aY _ _ h1]; exact h2,?_⟩
  rw [bD xs k h1]
  unfold shr at hs ⊢
  rw [List.filter_append,hs,qA (by rw [aY _ _ h1,h2]; rfl),List.append_nil]
 ·omega
theorem EG (xs:List Tg):-1 ≤ mD xs ∧ mD xs < xs.length:=by
 unfold mD
 split
 ·rename_i k hk
  obtain ⟨h1,_⟩ := List.findIdx?_eq_some_iff_getElem.1 hk
  omega
 ·omega
theorem EE {xs:List Tg}{j:Nat}(hj:j < xs.length) (h:xs[j]!.uq = false):shr (xs.take (j + 1)) = shr (xs.take j) ++ [xs[j]!]:=by
 rw [bD xs j hj]; unfold shr
 rw [List.filter_append,z8 (by rw [h]; rfl)]
theorem Bz {xs:List Tg}{j:Nat}(hj:j < xs.length) (h:xs[j]!.uq = true):shr (xs.take (j + 1)) = shr (xs.take j):=by
 rw [bD xs j hj]; unfold shr
 rw [List.filter_append,qA (by rw [h]; rfl),List.append_nil]
theorem CA {α:Type}[Inhabited α] {L:List α}{i:Nat}{x:α}(h:i < L.length):(L.set i x).take (i + 1) = L.take i ++ [x]:=by
 rw [List.set_eq_take_append_cons_drop,if_pos h]
 have h1 : (L.take i).length = i := by rw [List.length_take]; omega
 rw [List.take_append,h1,show i + 1 - i = 1 by omega,List.take_of_length_le (by omega)]
 rfl
theorem Cb {α:Type}[Inhabited α] {L M:List α}{j:Nat}(h:L.drop j = M.drop j) (hl:L.length = M.length) (hj:j < M.length):L[j]! = M[j]!:=by
 rw [aY _ _ (by omega),aY _ _ hj]
 rw [List.drop_eq_getElem_cons (by omega : j < L.length),List.drop_eq_getElem_cons hj] at h
 exact (List.cons.inj h).1
theorem nW {α:Type}{L M:List α}{j:Nat}(h:L.drop j = M.drop j):L.drop (j + 1) = M.drop (j + 1):=by
 rw [← List.drop_drop,h,List.drop_drop]
theorem EH {xs:List Tg}{m:Nat}{x0 x1:Operand}{i0:Nat}(ha0:ev (lk tsl) x0 = some (.own i0 0 m 2)) (ha1:ev (lk tsl) x1 = some (.v (.func (.func 270) #[] #[]))) (hH0:aN hsl i0 = some (flat bV xs)) (hmc:MC Tryz.prog 269 [.own 0 0 m 2,.v (.func (.func 270) #[] #[])] [(0,some (flat bV xs))] 1 (fun _:Unit => True) (fun _ => .own 0 0 (shr xs).length 2) (fun _ => [(0,some (flat bV (shr xs)))])) (hM:Nat.ble (nidl + 0) aU = true) (hN:Nat.blt d N = true){md':Md}[hmd:MdA md (dV [x0,x1] ++ [.inr i0]) (List.map Sum.inr (List.map Prod.fst ([(i0,some (flat bV (shr xs)))]:List (Nat × Option (List AV)))) ++ [.inl d]) md'] (kk:RW Tryz.prog N all Q md' rest ⟨(d,.own i0 0 (shr xs).length 2) :: tsl,eS hsl [(i0,some (flat bV (shr xs)))],nidl + 0,z0⟩):RW Tryz.prog N all Q md (⟨some d,.call ⟨.value (.func 269),#[x0,x1],tys⟩,ty,pos,af,none⟩ :: rest) ⟨tsl,hsl,nidl,z0⟩:=by
 exact aT (l := [x0,x1]) [i0] 1 [(i0,some (flat bV (shr xs)))] hmc (avs := [.own i0 0 m 2,.v (.func (.func 270) #[] #[])]) (by simp only [evL,ha0,ha1]) rfl hM hN (md' := md') (hmd := hmd) kk
theorem Gq (xs:List Tg) (m:Nat) (hm:m = xs.length) (hl:m ≤ 1048576):MC Tryz.prog 269 [.own 0 0 m 2,.v (.func (.func 270) #[] #[])] [(0,some (flat bV xs))] 1 (fun _:Unit => True) (fun _ => .own 0 0 (shr xs).length 2) (fun _ => [(0,some (flat bV (shr xs)))]):=by
 subst hm
 have hix := Fe xs hl
 have hbd := EG xs
 by_cases hn : mD xs = -1
 ·rw [hn] at hix
  have hs := AD hn
  refine aQ Tryz.func269 Tryz.ntmps269 ?_
  repeat' (first|(apply aD;(apply n8 (k := 267);(case ha => rfl);(case hl => (repeat' (first|exact lH|apply jV|exact zR|exact lD rfl inferInstance)));(case h => exact hix);(case hfr|hN => rfl);(case hmd => infer_instance)))|refine aE ?_|fail)
  all_goals (
   (refine aB rfl ?_; refine aO () trivial ?_ ⟨sE ?_,trivial⟩)
   ·rw [hs]; rfl
   ·rw [hs])
 ·obtain ⟨i0, hi0⟩ := Int.eq_ofNat_of_zero_le (show 0 ≤ mD xs by omega)
  obtain ⟨g1,g2,g3⟩ := Av hi0
  rw [hi0] at hix
  refine aQ Tryz.func269 Tryz.ntmps269 ?_
  repeat' (first|(apply aD;(apply n8 (k := 267);(case ha => rfl);(case hl => (repeat' (first|exact lH|apply jV|exact zR|exact lD rfl inferInstance)));(case h => exact hix);(case hfr|hN => rfl);(case hmd => infer_instance)))|refine aE ?_|fail)
  all_goals (try (exfalso;omega))
  refine aL (σ := List Tg × Nat × Nat) [0,1] [] (fun s => [(5,iv (s.2.1 : Int)),(6,iv (s.2.2 : Int))]) (fun s => [(0,some (flat bV s.1))]) (fun s => s.1.length = xs.length ∧ s.1.take s.2.1 = shr (xs.take s.2.2) ∧ s.1.drop s.2.2 = xs.drop s.2.2 ∧ s.2.1 < s.2.2 ∧ s.2.2 ≤ xs.length) (fun s => xs.length - s.2.2) (xs,i0,i0 + 1) ⟨rfl,g3.symm,rfl,by dsimp only;omega,by dsimp only;omega⟩ ?_
  rintro ⟨L,i,j⟩ ⟨hL,ht,hd,hij,hj⟩
  dsimp only at hL ht hd hij hj ⊢
  by_cases hjn : j < xs.length
  ·have hcl := uK L[j]!
   have hg := Cb hd hL hjn
   repeat' (first|(apply aD;first|(apply bH;rfl;rfl;rfl;rfl;rfl;(case hl => (first|(rw [aI]; simp only [fP] <;> omega)|(simp;done)));(exact H9 (by (first|assumption|omega))))|(apply iR;rfl;rfl;infer_instance;rfl;(apply hcl);(rfl);rfl))|refine aE ?_|(refine aM ?_ ?_ <;> intro hc hq <;> try (exfalso;omega))|fail)
   ·have hu : L[j]!.uq = false := by assumption
    (refine bX (_,i + 1,j + 1) (Le.renA []) ?_ ?_)
    ·refine ⟨by dsimp only; rw [List.length_set]; exact hL, ?_, ?_, by dsimp only; omega, by dsimp only; omega⟩
     ·dsimp only
      rw [CA (by omega),ht,EE hjn (by rw [← hg]; exact hu),hg]
     ·dsimp only
      rw [List.drop_set_of_lt (by omega)]
      exact nW hd
    ·dsimp only;omega
   ·have hu : L[j]!.uq = true := by assumption
    (refine bX (L,i,j + 1) (Le.renA []) ?_ ?_)
    ·refine ⟨hL, ?_, nW hd, by dsimp only; omega, by dsimp only; omega⟩
     dsimp only
     rw [ht,Bz hjn (by rw [← hg]; exact hu)]
    ·dsimp only;omega
  ·have hfl : (flat bV L).length = L.length * 2 := aI bV L
   repeat' (first|(apply aD;first|(apply eO (d := 38) (l := i) (h := xs.length);rfl;rfl;exact lG rfl (by omega);rfl;exact if_pos (by omega);rfl)|(apply eO (d := 41) (l := 0) (h := i);rfl;rfl;rfl;exact lG rfl (by omega);exact if_pos (by omega);rfl)|(apply BK;rfl;rfl;omega;rfl;(rw [hfl]; omega);rfl))|refine aE ?_|(refine aM ?_ ?_ <;> intro hc hq <;> try (exfalso;omega))|fail)
   refine aS (Le.cut (i := 0) (i * 2) rfl) ?_
   have hje : j = xs.length := by omega
   have hLt : L.take i = shr xs := by rw [ht,hje,List.take_length]
   have hil : (shr xs).length = i := by rw [← hLt,List.length_take]; omega
   (refine aB rfl ?_; refine aO () trivial ?_ ⟨sE ?_,trivial⟩)
   ·show AV.own 0 (0 + 0 * 2) (i - 0) 2 = _
    rw [hil]; rfl
   ·rw [Ct (by omega),cT bV (e := 2),hLt]
theorem eI {m:List Cl}{x0:Operand}(ha0:ev (lk tsl) x0 = some (sl bP m)) (hmc:MC Tryz.prog 241 [sl bP m] [] 0 (fun _:Unit => True) (fun _ => .own 1 0 m.length 4) (fun _ => [(1,some (flat bP m))])) (hM:Nat.ble (nidl + 2) aU = true) (hN:Nat.blt d N = true){md':Md}[hmd:MdA md (dV [x0] ++ []) (List.map Sum.inr (List.map Prod.fst ([((nidl + 1),some (flat bP m))]:List (Nat × Option (List AV)))) ++ [.inl d]) md'] (kk:RW Tryz.prog N all Q md' rest ⟨(d,.own (nidl + 1) 0 m.length 4) :: tsl,eS hsl [((nidl + 1),some (flat bP m))],nidl + 2,z0⟩):RW Tryz.prog N all Q md (⟨some d,.call ⟨.value (.func 241),#[x0],tys⟩,ty,pos,af,none⟩ :: rest) ⟨tsl,hsl,nidl,z0⟩:=by
 exact aT (l := [x0]) [] 2 [((nidl + 1),some (flat bP m))] hmc (avs := [sl bP m]) (by simp only [evL,ha0]) rfl hM hN (md' := md') (hmd := hmd) kk
theorem k8 {m:List Cl}{j:Nat}{x0:Operand}(ha0:ev (lk tsl) x0 = some (sl bP m)) (hmc:MC Tryz.prog 241 [sl bP m] [] 0 (fun _:Unit => True) (fun _ => .own 1 0 m.length 4) (fun _ => [(1,some (flat dP (cL m j (.own 2 0 m[j]!.stk.length 2)))),(2,some (flat bV m[j]!.stk))])) (hM:Nat.ble (nidl + 3) aU = true) (hN:Nat.blt d N = true){md':Md}[hmd:MdA md (dV [x0] ++ []) (List.map Sum.inr (List.map Prod.fst ([((nidl + 1),some (flat dP (cL m j (.own (nidl + 2) 0 m[j]!.stk.length 2)))),((nidl + 2),some (flat bV m[j]!.stk))]:List (Nat × Option (List AV)))) ++ [.inl d]) md'] (kk:RW Tryz.prog N all Q md' rest ⟨(d,.own (nidl + 1) 0 m.length 4) :: tsl,eS hsl [((nidl + 1),some (flat dP (cL m j (.own (nidl + 2) 0 m[j]!.stk.length 2)))),((nidl + 2),some (flat bV m[j]!.stk))],nidl + 3,z0⟩):RW Tryz.prog N all Q md (⟨some d,.call ⟨.value (.func 241),#[x0],tys⟩,ty,pos,af,none⟩ :: rest) ⟨tsl,hsl,nidl,z0⟩:=by
 exact aT (l := [x0]) [] 3 [((nidl + 1),some (flat dP (cL m j (.own (nidl + 2) 0 m[j]!.stk.length 2)))),((nidl + 2),some (flat bV m[j]!.stk))] hmc (avs := [sl bP m]) (by simp only [evL,ha0]) rfl hM hN (md' := md') (hmd := hmd) kk
theorem j8 {α:Type}[Inhabited α] (l:List α) (k:Nat):l.set k l[k]! = l:=by
 rcases Nat.lt_or_ge k l.length with h|h
 ·rw [aY _ _ h]; simp
 ·exact List.set_eq_of_length_le h
theorem zM {m:List Cl}{i:Nat}(hi:i < m.length):fA (flat bP m) (0 + i * 4 + 3) [sl bV m[i]!.stk] = flat bP m:=by
 have h := G0 (xs := m) (k := i) (s := m[i]!.stk) hi
 rw [show m.set i { m[i]! with stk := m[i]!.stk } = m from j8 m i] at h
 exact h
theorem wQ {m:List Cl}{i j:Nat}{X:AV}(hi:i < m.length) (h:i ≠ j):(cL m j X)[i]! = mF m[i]!:=by
 unfold cL
 rw [aY _ _ (by rw [List.length_set,List.length_map]; exact hi),List.getElem_set_ne (fun e => h e.symm),List.getElem_map,aY _ _ hi]
theorem EN {m:List Cl}{i j:Nat}{X:AV}(h:i < m.length ∧ i ≠ j):fA (flat dP (cL m j X)) (0 + i * 4 + 3) [sl bV m[i]!.stk] = flat dP (cL m j X):=by
 have hl := cF (m := m) (j := j) (X := X)
 have e : (cL m j X).set i { (cL m j X)[i]! with av := sl bV m[i]!.stk } = cL m j X := by
  rw [wQ h.1 h.2]
  have : ({ mF m[i]! with av := sl bV m[i]!.stk } : Co) = (cL m j X)[i]! := by rw [wQ h.1 h.2]; rfl
  rw [this]; exact j8 _ _
 rw [← e]
 have := dA (f := dP) (xs := cL m j X) (k := i) (j := 3) (new := [sl bV m[i]!.stk]) (y := { (cL m j X)[i]! with av := sl bV m[i]!.stk }) (by rw [hl]; exact h.1) (by simp) rfl
 rw [e] at this ⊢
 exact this
theorem kI {mp:List (Nat × Nat)}{lo:Lo}:∀ {cs:List AV},aZ cs = true → All2 (z6 mp lo) cs cs
 | [],_ => .nil
 | c :: cs, h => by
  simp only [aZ,Bool.and_eq_true] at h
  exact .cons (.inl ⟨rfl,h.1⟩) (kI h.2)
theorem oD {α β:Type}{R:α → β → Prop}:∀ {a:List α}{b:List β}{c:List α}{d:List β},All2 R a b → All2 R c d → All2 R (a ++ c) (b ++ d)
 | _,_,_,_,.nil,h => h
 | _,_,_,_,.cons h1 h2,h => .cons h1 (oD h2 h)
theorem zE {mp:List (Nat × Nat)}{lo:Lo}{m:List Cl}{j k i i':Nat}(h:j < m.length) (hr:Hk mp lo (.own i 0 k 2) = some (.own i' 0 k 2)):All2 (z6 mp lo) (flat dP (cL m j (.own i 0 k 2))) (flat dP (cL m j (.own i' 0 k 2))):=by
 rw [fI h,fI h]
 exact oD (kI (inferInstance : Pur (flat bP _)).pf) (oD (kI (inferInstance : Pur [iv _,bv _,iv _]).pf) (.cons (.inr hr) (kI (inferInstance : Pur (flat bP _)).pf)))
theorem gD (m:List Cl) (hm:OkM m):MC Tryz.prog 241 [sl bP m] [] 0 (fun _:Unit => True) (fun _ => .own 1 0 m.length 4) (fun _ => [(1,some (flat bP m))]):=by
 have hml := hm.l
 have hcc := uZ m (by omega)
 refine aQ Tryz.func241 Tryz.ntmps241 ?_
 repeat' (first|(apply aD;(apply pD;rfl;exact hcc;rfl;rfl))|refine aE ?_|fail)
 refine aL (σ := Nat) [3,8,9] [] (fun k => [(10,iv (k : Int))]) (fun k => [(1,some (flat bP m))]) (fun k => k ≤ m.length) (fun k => m.length - k) (0) (Nat.zero_le _) ?_
 rintro i hi
 by_cases hin : i < m.length
 ·have hst : m[i]!.stk.length ≤ 200 := (((eU m).1 hm).2 i hin).l.2
  have hct := vN m[i]!.stk (by omega)
  repeat' (first|(apply aD;first|(apply lJ;rfl;exact hct;rfl;rfl)|(with_reducible apply a5 (d := 20)))|refine aE ?_|(refine aM ?_ ?_ <;> intro hc hq <;> try (exfalso;omega))|fail)
  refine b8 (fV ?_ (Le.frzD (d := 19) (i := 4) rfl rfl))
  repeat' (first|(apply aD;(apply bH;rfl;rfl;rfl;rfl;rfl;(rw [aI]; simp only [fP] <;> omega);(exact zM (by (assumption)))))|refine aE ?_|fail)
  (apply bX (i + 1);focus (refine Le.ren [(1,1)] rfl (by decide) ?_ ?_ <;> repeat' (first|exact trivial|refine And.intro ⟨_,rfl,?_⟩ ?_|refine And.intro ⟨_,_,rfl,rfl,?_⟩ ?_|exact Or.inr rfl|refine Or.inl ⟨?_,(by first|rfl|exact bZ _ _)⟩|rfl)))
  ·omega
  ·omega
 ·repeat' (first | refine aE ?_ | (refine aM ?_ ?_ <;> intro hc hq <;> try (exfalso; omega))|fail)
  (refine aB rfl ?_; refine aO () trivial ?_ ⟨sE ?_,trivial⟩)
  ·rfl
  ·rfl
theorem nZ (m:List Cl) (j:Nat) (hm:OkM m) (hj:j < m.length):MC Tryz.prog 241 [sl bP m] [] 0 (fun _:Unit => True) (fun _ => .own 1 0 m.length 4) (fun _ => [(1,some (flat dP (cL m j (.own 2 0 m[j]!.stk.length 2)))),(2,some (flat bV m[j]!.stk))]):=by
 have hml := hm.l
 have hcc := uZ m (by omega)
 refine aQ Tryz.func241 Tryz.ntmps241 ?_
 repeat' (first|(apply aD;(apply pD;rfl;exact hcc;rfl;rfl))|refine aE ?_|fail)
 refine AW.le ?_ (Le.bump 1)
 refine aL (σ := Nat × Bool) [3,8,9] [] (fun k => [(10,iv (k.1 : Int))]) (fun k => [(1,some (cond k.2 (flat dP (cL m j (.own 2 0 m[j]!.stk.length 2))) (flat bP m))),(2,cond k.2 (some (flat bV m[j]!.stk)) none)]) (fun k => k.1 ≤ m.length ∧ k.2 = decide (j < k.1)) (fun k => m.length - k.1) (0,false) ⟨Nat.zero_le _,by simp⟩ ?_
 rintro ⟨i,b⟩ ⟨hi,hb⟩
 dsimp only at hi hb ⊢
 by_cases hin : i < m.length
 ·have hst : m[i]!.stk.length ≤ 200 := (((eU m).1 hm).2 i hin).l.2
  have hct := vN m[i]!.stk (by omega)
  by_cases hij : j < i
  ·rw [decide_eq_true hij] at hb; subst hb
   simp only [cond_true]
   have hol := cF (m := m) (j := j) (X := .own 2 0 m[j]!.stk.length 2)
   have hon := wQ (m := m) (i := i) (j := j) (X := .own 2 0 m[j]!.stk.length 2) hin (by omega)
   repeat' (first|(apply aD;(with_reducible apply a5 (d := 5)))|refine aE ?_|(refine aM ?_ ?_ <;> intro hc hq <;> try (exfalso;omega))|fail)
   refine b8 ?_
   rw [hon]
   dsimp only [mF]
   repeat' (first|(apply aD;first|(apply lJ;rfl;exact hct;rfl;rfl)|(with_reducible apply a5 (d := 20)))|refine aE ?_|fail)
   refine b8 (fV ?_ (Le.frzD (d := 19) (i := 5) rfl rfl))
   repeat' (first|(apply aD;(apply bH;rfl;rfl;rfl;rfl;rfl;(rw [aI]; simp only [fP] <;> omega);(exact EN (by (omega)))))|refine aE ?_|fail)
   (apply bX (i + 1,true);focus (refine Le.ren [(1,1),(2,2)] rfl (by decide) ?_ ?_ <;> repeat' (first|exact trivial|refine And.intro ⟨_,rfl,?_⟩ ?_|refine And.intro ⟨_,_,rfl,rfl,?_⟩ ?_|exact Or.inr rfl|refine Or.inl ⟨?_,(by first|rfl|exact bZ _ _)⟩|rfl)))
   ·exact Or.inr (zE hj rfl)
   ·exact ⟨by dsimp only;omega,by dsimp only;rw [decide_eq_true (by omega)]⟩
   ·dsimp only;omega
  ·rw [decide_eq_false hij] at hb; subst hb
   simp only [cond_false]
   repeat' (first|(apply aD;first|(apply lJ;rfl;exact hct;rfl;rfl)|(with_reducible apply a5 (d := 20)))|refine aE ?_|(refine aM ?_ ?_ <;> intro hc hq <;> try (exfalso;omega))|fail)
   by_cases hie : i = j
   ·subst hie
    refine b8 ?_
    repeat' (first|(apply aD;(apply bH;rfl;rfl;rfl;rfl;rfl;(rw [aI]; simp only [fP] <;> omega);(exact Fv (by (assumption)))))|refine aE ?_|fail)
    (apply bX (i + 1,true);focus (refine Le.ren [(1,1),(2,5)] rfl (by decide) ?_ ?_ <;> repeat' (first|exact trivial|refine And.intro ⟨_,rfl,?_⟩ ?_|refine And.intro ⟨_,_,rfl,rfl,?_⟩ ?_|exact Or.inr rfl|refine Or.inl ⟨?_,(by first|rfl|exact bZ _ _)⟩|rfl)))
    ·exact Or.inr (zE hin rfl)
    ·exact ⟨by dsimp only;omega,by dsimp only;rw [decide_eq_true (by omega)]⟩
    ·dsimp only;omega
   ·refine b8 (fV ?_ (Le.frzD (d := 19) (i := 5) rfl rfl))
    repeat' (first|(apply aD;(apply bH;rfl;rfl;rfl;rfl;rfl;(rw [aI]; simp only [fP] <;> omega);(exact zM (by (assumption)))))|refine aE ?_|fail)
    (apply bX (i + 1,false);focus (refine Le.ren [(1,1)] rfl (by decide) ?_ ?_ <;> repeat' (first|exact trivial|refine And.intro ⟨_,rfl,?_⟩ ?_|refine And.intro ⟨_,_,rfl,rfl,?_⟩ ?_|exact Or.inr rfl|refine Or.inl ⟨?_,(by first|rfl|exact bZ _ _)⟩|rfl)))
    ·exact ⟨by dsimp only;omega,by dsimp only;rw [decide_eq_false (by omega)]⟩
    ·dsimp only;omega
 ·rw [decide_eq_true (by omega)] at hb; subst hb
  simp only [cond_true]
  repeat' (first|refine aE ?_|(refine aM ?_ ?_ <;> intro hc hq <;> try (exfalso;omega))|fail)
  (refine aB rfl ?_; refine aO () trivial ?_ ⟨sE ?_,⟨sE ?_,trivial⟩⟩)
  ·rfl
  ·rfl
  ·rfl
theorem jK {m:List Cl}{x:Pt}{wr:Bool}{n:Nat}{x0 x1 x2:Operand}{i0:Nat}(ha0:ev (lk tsl) x0 = some (.own i0 0 n 4)) (ha1:ev (lk tsl) x1 = some (Bx x)) (ha2:ev (lk tsl) x2 = some (bv wr)) (hH0:aN hsl i0 = some (flat bP m)) (hmc:MC Tryz.prog 242 [.own 0 0 n 4,Bx x,bv wr] [(0,some (flat bP m))] 1 (fun _:Unit => True) (fun _ => iv (a8 m x wr)) (fun _ => [(0,some (flat bP m))])) (hM:Nat.ble (nidl + 0) aU = true) (hN:Nat.blt d N = true){md':Md}[hmd:MdA md (dV [x0,x1,x2] ++ [.inr i0]) (List.map Sum.inr (List.map Prod.fst ([(i0,some (flat bP m))]:List (Nat × Option (List AV)))) ++ [.inl d]) md'] (kk:RW Tryz.prog N all Q md' rest ⟨(d,iv (a8 m x wr)) :: tsl,eS hsl [(i0,some (flat bP m))],nidl + 0,z0⟩):RW Tryz.prog N all Q md (⟨some d,.call ⟨.value (.func 242),#[x0,x1,x2],tys⟩,ty,pos,af,none⟩ :: rest) ⟨tsl,hsl,nidl,z0⟩:=by
 exact aT (l := [x0,x1,x2]) [i0] 1 [(i0,some (flat bP m))] hmc (avs := [.own i0 0 n 4,Bx x,bv wr]) (by simp only [evL,ha0,ha1,ha2]) rfl hM hN (md' := md') (hmd := hmd) kk
theorem qK {m:List Cl}{j:Nat}{t:Int}{k n:Nat}{x0 x1 x2:Operand}{i0 i1:Nat}(ha0:ev (lk tsl) x0 = some (.own i0 0 n 4)) (ha1:ev (lk tsl) x1 = some (.agg [iv (j:Int),iv t])) (ha2:ev (lk tsl) x2 = some (bv true)) (hH0:aN hsl i0 = some (flat dP (cL m j (.own i1 0 m[j]!.stk.length 2)))) (hH1:aN hsl i1 = some (flat bV m[j]!.stk)) (hdd:Go.AL.distinct [i0,i1] = true) (hmc:MC Tryz.prog 242 [.own 0 0 n 4,.agg [iv (j:Int),iv t],bv true] [(0,some (flat dP (cL m j (.own 1 0 m[j]!.stk.length 2)))),(1,some (flat bV m[j]!.stk))] 2 (fun _:Unit => True) (fun _ => iv 0) (fun _ => [(0,some (flat dP (cL m j (.own 1 0 (k + 1) 2)))),(1,some (flat bV (m[j]!.stk.take (k + 1))))])) (hM:Nat.ble (nidl + 0) aU = true) (hN:Nat.blt d N = true){md':Md}[hmd:MdA md (dV [x0,x1,x2] ++ [.inr i0,.inr i1]) (List.map Sum.inr (List.map Prod.fst ([(i0,some (flat dP (cL m j (.own i1 0 (k + 1) 2)))),(i1,some (flat bV (m[j]!.stk.take (k + 1))))]:List (Nat × Option (List AV)))) ++ [.inl d]) md'] (kk:RW Tryz.prog N all Q md' rest ⟨(d,iv 0) :: tsl,eS hsl [(i0,some (flat dP (cL m j (.own i1 0 (k + 1) 2)))),(i1,some (flat bV (m[j]!.stk.take (k + 1))))],nidl + 0,z0⟩):RW Tryz.prog N all Q md (⟨some d,.call ⟨.value (.func 242),#[x0,x1,x2],tys⟩,ty,pos,af,none⟩ :: rest) ⟨tsl,hsl,nidl,z0⟩:=by
 exact aT (l := [x0,x1,x2]) [i0,i1] 2 [(i0,some (flat dP (cL m j (.own i1 0 (k + 1) 2)))),(i1,some (flat bV (m[j]!.stk.take (k + 1))))] hmc (avs := [.own i0 0 n 4,.agg [iv (j : Int),iv t],bv true]) (by simp only [evL,ha0,ha1,ha2]) hdd hM hN (md' := md') (hmd := hmd) kk
theorem LdL.app {D:List Nat}{H:Nat → Option (List AV)}:∀ {a b c d:List AV},LdL D H a b → LdL D H c d → aZ a = true → LdL D H (a ++ c) (a ++ d)
 | [],_,_,_,_,h,_ => h
 | x :: a, b, c, d, h1, h, hp => by
  simp only [aZ,Bool.and_eq_true] at hp
  exact .cons (.pur hp.1) (LdL.app (a := a) (b := a) (.pur hp.2) h hp.2)
theorem He {D:List Nat}{H:Nat → Option (List AV)}{m:List Cl}{j i k:Nat}{r:List Tg}(hi:i ∈ D) (hH:H i = some (flat bV r)) (hk:k = r.length) (hj:j < m.length):LdL D H (flat dP (cL m j (.own i 0 k 2))) (flat bP (m.set j { m[j]! with stk := r })):=by
 subst hk
 rw [← u0,fI hj,fI hj]
 have p1 : aZ (flat bP (m.take j)) = true := (inferInstance : Pur (flat bP _)).pf
 have p2 : aZ [iv m[j]!.val,bv m[j]!.alive,iv m[j]!.next] = true := rfl
 exact LdL.app (.pur p1) (LdL.app (.pur p2) (.cons (.own hi hH (.pur (inferInstance : Pur (flat bV r)).pf)) (.pur (inferInstance : Pur (flat bP _)).pf)) p2) p1
theorem yJ {D:List Nat}{H:Nat → Option (List AV)}{m:List Cl}{j i:Nat}(hi:i ∈ D) (hH:H i = some (flat bV m[j]!.stk)) (hj:j < m.length):LdL D H (flat dP (cL m j (.own i 0 m[j]!.stk.length 2))) (flat bP m):=by
 have h := He (m := m) (r := m[j]!.stk) hi hH rfl hj
 rwa [show m.set j { m[j]! with stk := m[j]!.stk } = m from j8 m j] at h
theorem Hg {m:List Cl}{x:Pt}{wr:Bool}(h:0 ≤ x.cell) (h2:x.cell < m.length) (h3:m[x.cell.toNat]!.alive = true) (h4:0 ≤ bR m[x.cell.toNat]!.stk x.tag) (hw:wr = true) (h5:m[x.cell.toNat]!.stk[(bR m[x.cell.toNat]!.stk x.tag).toNat]!.uq = false):a8 m x wr = 3:=by
 unfold a8;rw [if_neg (by omega),if_neg (by rw [h3]; decide),if_neg (by omega),if_pos ⟨hw,h5⟩]
theorem kH (m:List Cl) (x:Pt) (wr:Bool) (n:Nat) (hm:OkM m) (hn:n = m.length) (hk:a8 m x wr ≠ 0):MC Tryz.prog 242 [.own 0 0 n 4,Bx x,bv wr] [(0,some (flat bP m))] 1 (fun _:Unit => True) (fun _ => iv (a8 m x wr)) (fun _ => [(0,some (flat bP m))]):=by
 subst hn
 have hml := hm.l
 have hcv := eH m hm
 have hst : 0 ≤ x.cell → x.cell < m.length → m[x.cell.toNat]!.stk.length ≤ 200 := fun h1 h2 => (((eU m).1 hm).2 x.cell.toNat (by omega)).l.2
 have hbd := eW m[x.cell.toNat]!.stk x.tag
 have hidx := fun h => rY m[x.cell.toNat]!.stk x.cell x.tag h
 refine aQ Tryz.func242 Tryz.ntmps242 ?_
 repeat' (first|(apply aD;first|(apply n8 (k := 239);(case ha => rfl);(case hl => (repeat' (first|exact lH|apply jV|exact lD rfl inferInstance)));(case h => exact hcv);(case hfr|hN => rfl);(case hmd => infer_instance))|((apply eT 4);(case hx|hH|hc|hN => rfl))|(apply aA (k := 267);rfl;(exact (hidx (by have := hst (by omega) (by omega);omega)));exact Pur.pf;rfl)|(with_reducible apply a5 (d := 75))|(apply aA (k := 54);rfl;(apply bQ);(rfl);rfl))|refine aE ?_|(refine aM ?_ ?_ <;> intro hc hq <;> try (exfalso;omega))|(refine bS ?_ ?_ <;> intro hg hq <;> try (exfalso;omega))|fail)
 ·(refine aB rfl ?_; refine aO () trivial ?_ ⟨sE ?_, trivial⟩)
  ·rw [F1 (by omega)]; rfl
  ·rfl
 ·(refine aB rfl ?_; refine aO () trivial ?_ ⟨sE ?_, trivial⟩)
  ·rw [GA (by omega) (by omega) (by assumption)]; rfl
  ·rfl
 ·(refine aB rfl ?_; refine aO () trivial ?_ ⟨sE ?_, trivial⟩)
  ·rw [Hm (by omega) (by omega) (by assumption) (by assumption)]; rfl
  ·rfl
 ·(refine aB rfl ?_; refine aO () trivial ?_ ⟨sE ?_, trivial⟩)
  ·rw [Hg (by omega) (by omega) (by assumption) (by assumption) (by assumption) (by assumption)]; rfl
  ·rfl
 ·exfalso
  have hw : wr = true := by assumption
  have hu : m[x.cell.toNat]!.stk[(bR m[x.cell.toNat]!.stk x.tag).toNat]!.uq = true := by assumption
  subst hw
  refine hk ?_
  rw [ES,if_pos (yV (by omega) (by omega) (by assumption) (by assumption)),if_neg (by rw [hu]; decide)]
 ·exfalso
  have hw : wr = false := by assumption
  subst hw
  exact hk (yV (by omega) (by omega) (by assumption) (by assumption))
theorem nU (m:List Cl) (j:Nat) (t:Int) (k n:Nat) (hm:OkM m) (hn:n = m.length) (hj:j < m.length) (hk:bR m[j]!.stk t = (k:Int)) (hal:m[j]!.alive = true) (hu:m[j]!.stk[k]!.uq = true):MC Tryz.prog 242 [.own 0 0 n 4,.agg [iv (j:Int),iv t],bv true] [(0,some (flat dP (cL m j (.own 1 0 m[j]!.stk.length 2)))),(1,some (flat bV m[j]!.stk))] 2 (fun _:Unit => True) (fun _ => iv 0) (fun _ => [(0,some (flat dP (cL m j (.own 1 0 (k + 1) 2)))),(1,some (flat bV (m[j]!.stk.take (k + 1))))]):=by
 subst hn
 have hml := hm.l
 have hcv := eH m hm
 have hst : m[j]!.stk.length ≤ 200 := (((eU m).1 hm).2 j hj).l.2
 have hbd := eW m[j]!.stk t
 rw [hk] at hbd
 have hidx := rY m[j]!.stk (j : Int) t (by omega)
 rw [hk] at hidx
 have hog := eY (m := m) (j := j) (X := .own 1 0 m[j]!.stk.length 2) hj
 have hol := cF (m := m) (j := j) (X := .own 1 0 m[j]!.stk.length 2)
 refine aQ Tryz.func242 Tryz.ntmps242 ?_
 repeat' (first|(apply aD;first|(apply kZ (k := 239) (D := [0,1]) (h := hcv);rfl;exact .cons (.own (by simp) rfl (yJ (by simp) rfl hj)) .nil;rfl;rfl)|(with_reducible apply a5 (d := 35))|(apply aA (k := 54);rfl;(apply bQ);(rfl);rfl))|refine aE ?_|(refine aM ?_ ?_ <;> intro hc hq <;> try (exfalso;omega))|fail)
 all_goals (try (exfalso;omega))
 ·exfalso
  have h : (cL m j (.own 1 0 m[j]!.stk.length 2))[j]!.alive = false := by assumption
  rw [hog] at h;simp only [hal] at h;cases h
 refine b8 ?_
 rw [hog]
 dsimp only
 repeat' (first|(apply aD;first|((apply eT 4);(case hx|hH|hc|hN => rfl))|(apply kZ (k := 267) (D := [1]) (h := hidx);rfl;exact .cons (.own (by simp) rfl (.pur (inferInstance : Pur (flat bV _)).pf)) (.cons (.pur rfl) .nil);rfl;rfl)|(with_reducible apply a5 (d := 68)))|refine aE ?_|fail)
 refine b8 ?_
 rw [hog]
 dsimp only
 repeat' (first|(apply aD;(with_reducible apply a5 (d := 81)))|refine aE ?_|(refine aM ?_ ?_ <;> intro hc hq <;> try (exfalso;omega))|fail)
 ·exfalso
  have h : m[j]!.stk[k]!.uq = false := by assumption
  rw [hu] at h;cases h
 refine b8 ?_
 rw [hog]
 dsimp only
 repeat' (first|(apply aD;first|(apply eO (d := 83) (l := 0) (h := k + 1);rfl;rfl;rfl;exact lG rfl (by omega);exact if_pos (by omega);rfl)|(apply bH;rfl;rfl;rfl;rfl;rfl;(rw [aI]; simp only [fP] <;> omega);(exact rW (by (assumption)))))|refine aE ?_|fail)
 refine aS (Le.cut (i := 1) ((k + 1) * 2) rfl) ?_
 (refine aB rfl ?_; refine aO () trivial ?_ ⟨sE ?_,⟨sE ?_,trivial⟩⟩)
 ·rfl
 ·rfl
 ·rw [cT bV (e := 2)]
theorem AO {xs:List Tg}{k n:Nat}{x0:Operand}{i0:Nat}(ha0:ev (lk tsl) x0 = some (.own i0 (0 + k * 2) n 2)) (hH0:aN hsl i0 = some (flat bV xs)) (hmc:MC Tryz.prog 266 [.own 0 (0 + k * 2) n 2] [(0,some (flat bV xs))] 1 (fun _:Unit => True) (fun _ => .own 2 0 n 2) (fun _ => [(0,some (flat bV xs)),(2,some (flat bV (xs.drop k)))])) (hM:Nat.ble (nidl + 2) aU = true) (hN:Nat.blt d N = true){md':Md}[hmd:MdA md (dV [x0] ++ [.inr i0]) (List.map Sum.inr (List.map Prod.fst ([(i0,some (flat bV xs)),((nidl + 1),some (flat bV (xs.drop k)))]:List (Nat × Option (List AV)))) ++ [.inl d]) md'] (kk:RW Tryz.prog N all Q md' rest ⟨(d,.own (nidl + 1) 0 n 2) :: tsl,eS hsl [(i0,some (flat bV xs)),((nidl + 1),some (flat bV (xs.drop k)))],nidl + 2,z0⟩):RW Tryz.prog N all Q md (⟨some d,.call ⟨.value (.func 266),#[x0],tys⟩,ty,pos,af,none⟩ :: rest) ⟨tsl,hsl,nidl,z0⟩:=by
 exact aT (l := [x0]) [i0] 3 [(i0,some (flat bV xs)),((nidl + 1),some (flat bV (xs.drop k)))] hmc (avs := [.own i0 (0 + k * 2) n 2]) (by simp only [evL,ha0]) rfl hM hN (md' := md') (hmd := hmd) kk
theorem BY (xs:List Tg) (k n:Nat) (hn:n = xs.length - k) (hl:xs.length ≤ 1048576):MC Tryz.prog 266 [.own 0 (0 + k * 2) n 2] [(0,some (flat bV xs))] 1 (fun _:Unit => True) (fun _ => .own 2 0 n 2) (fun _ => [(0,some (flat bV xs)),(2,some (flat bV (xs.drop k)))]):=by
 subst hn
 refine aQ Tryz.func266 Tryz.ntmps266 ?_
 repeat' (first|(apply aD;first|(apply zY;rfl;rfl;(intro b hb))|(apply c8;rfl;rfl;rfl;rfl;rfl;(decide);exact yP rfl rfl;omega;omega;(exact nG rfl);rfl;rfl))|refine aE ?_|(refine aM ?_ ?_ <;> intro hc hq <;> try (exfalso;omega))|fail)
 ·have h0 : xs.length - k = 0 := hb (by assumption)
  have h1 : xs.drop k = [] := List.drop_eq_nil_of_le (by omega)
  refine aS (Le.bump 1) ?_
  refine aS (Le.nilOwn (d := 2) 2 rfl (by decide)) ?_
  (refine aB rfl ?_; refine aO () trivial ?_ ⟨sE ?_,⟨sE ?_,trivial⟩⟩)
  ·show AV.own 2 0 0 2 = _; rw [h0]
  ·rfl
  ·rw [h1]; rfl
 ·(refine aB rfl ?_; refine aO () trivial ?_ ⟨sE ?_, ⟨sE ?_, trivial⟩⟩)
  ·show AV.own 2 0 (0 + (xs.length - k)) 2 = _
   rw [Nat.zero_add]
  ·rfl
  ·rfl
theorem pZ {m:List Cl}{j:Nat}{t:Int}{r:List Tg}{n:Nat}{x0 x1 x2:Operand}{i0 i1:Nat}(ha0:ev (lk tsl) x0 = some (.own i0 0 n 4)) (ha1:ev (lk tsl) x1 = some (.agg [iv (j:Int),iv t])) (ha2:ev (lk tsl) x2 = some (bv false)) (hH0:aN hsl i0 = some (flat dP (cL m j (.own i1 0 m[j]!.stk.length 2)))) (hH1:aN hsl i1 = some (flat bV m[j]!.stk)) (hdd:Go.AL.distinct [i0,i1] = true) (hmc:MC Tryz.prog 242 [.own 0 0 n 4,.agg [iv (j:Int),iv t],bv false] [(0,some (flat dP (cL m j (.own 1 0 m[j]!.stk.length 2)))),(1,some (flat bV m[j]!.stk))] 2 (fun _:Unit => True) (fun _ => iv 0) (fun _ => [(0,some (flat dP (cL m j (.own 5 0 r.length 2)))),(5,some (flat bV r))])) (hM:Nat.ble (nidl + 4) aU = true) (hN:Nat.blt d N = true){md':Md}[hmd:MdA md (dV [x0,x1,x2] ++ [.inr i0,.inr i1]) (List.map Sum.inr (List.map Prod.fst ([(i0,some (flat dP (cL m j (.own (nidl + 3) 0 r.length 2)))),((nidl + 3),some (flat bV r)),(i1,none)]:List (Nat × Option (List AV)))) ++ [.inl d]) md'] (kk:RW Tryz.prog N all Q md' rest ⟨(d,iv 0) :: tsl,eS hsl [(i0,some (flat dP (cL m j (.own (nidl + 3) 0 r.length 2)))),((nidl + 3),some (flat bV r)),(i1,none)],nidl + 4,z0⟩):RW Tryz.prog N all Q md (⟨some d,.call ⟨.value (.func 242),#[x0,x1,x2],tys⟩,ty,pos,af,none⟩ :: rest) ⟨tsl,hsl,nidl,z0⟩:=by
 exact aT (l := [x0,x1,x2]) [i0,i1] 6 [(i0,some (flat dP (cL m j (.own (nidl + 3) 0 r.length 2)))),((nidl + 3),some (flat bV r)),(i1,none)] hmc (avs := [.own i0 0 n 4,.agg [iv (j : Int),iv t],bv false]) (by simp only [evL,ha0,ha1,ha2]) hdd hM hN (md' := md') (hmd := hmd) kk
theorem vI (m:List Cl) (j:Nat) (t:Int) (r:List Tg) (k n:Nat) (hm:OkM m) (hn:n = m.length) (hj:j < m.length) (hk:bR m[j]!.stk t = (k:Int)) (hal:m[j]!.alive = true) (hr:r = gQ m[j]!.stk k false):MC Tryz.prog 242 [.own 0 0 n 4,.agg [iv (j:Int),iv t],bv false] [(0,some (flat dP (cL m j (.own 1 0 m[j]!.stk.length 2)))),(1,some (flat bV m[j]!.stk))] 2 (fun _:Unit => True) (fun _ => iv 0) (fun _ => [(0,some (flat dP (cL m j (.own 5 0 r.length 2)))),(5,some (flat bV r))]):=by
 subst hn
 have hml := hm.l
 have hcv := eH m hm
 have hst : m[j]!.stk.length ≤ 200 := (((eU m).1 hm).2 j hj).l.2
 have hbd := eW m[j]!.stk t
 rw [hk] at hbd
 have hidx := rY m[j]!.stk (j : Int) t (by omega)
 rw [hk] at hidx
 have hog := eY (m := m) (j := j) (X := .own 1 0 m[j]!.stk.length 2) hj
 have hol := cF (m := m) (j := j) (X := .own 1 0 m[j]!.stk.length 2)
 refine aQ Tryz.func242 Tryz.ntmps242 ?_
 repeat' (first|(apply aD;first|(apply kZ (k := 239) (D := [0,1]) (h := hcv);rfl;exact .cons (.own (by simp) rfl (yJ (by simp) rfl hj)) .nil;rfl;rfl)|(with_reducible apply a5 (d := 35))|(apply aA (k := 54);rfl;(apply bQ);(rfl);rfl))|refine aE ?_|(refine aM ?_ ?_ <;> intro hc hq <;> try (exfalso;omega))|fail)
 all_goals (try (exfalso;omega))
 ·exfalso
  have h : (cL m j (.own 1 0 m[j]!.stk.length 2))[j]!.alive = false := by assumption
  rw [hog] at h;simp only [hal] at h;cases h
 refine b8 ?_
 rw [hog]
 dsimp only
 repeat' (first|(apply aD;first|((apply eT 4);(case hx|hH|hc|hN => rfl))|(apply kZ (k := 267) (D := [1]) (h := hidx);rfl;exact .cons (.own (by simp) rfl (.pur (inferInstance : Pur (flat bV _)).pf)) (.cons (.pur rfl) .nil);rfl;rfl)|(with_reducible apply a5 (d := 41)))|refine aE ?_|fail)
 refine b8 ?_
 rw [hog]
 dsimp only
 repeat' (first|(apply aD;first|(apply eO (d := 43) (l := k + 1) (h := m[j]!.stk.length);rfl;rfl;exact lG rfl (by omega);rfl;exact if_pos (by omega);rfl)|(apply AO;rfl;rfl;exact BY _ _ _ rfl (by omega);rfl;rfl)|(apply EH;rfl;rfl;rfl;exact Gq _ _ (by rw [List.length_drop]) (by omega);rfl;rfl)|(with_reducible apply a5 (d := 51)))|refine aE ?_|fail)
 refine b8 ?_
 rw [hog]
 dsimp only
 have hfl : (flat bV m[j]!.stk).length = m[j]!.stk.length * 2 := aI bV _
 have hsl : (shr (List.drop (k + 1) m[j]!.stk)).length ≤ 200 := Nat.le_trans (List.length_filter_le _ _) (by rw [List.length_drop]; omega)
 repeat' (first|(apply aD;first|(apply eO (d := 53) (l := 0) (h := k + 1);rfl;rfl;rfl;exact lG rfl (by omega);exact if_pos (by omega);rfl)|(apply c8;rfl;rfl;rfl;rfl;rfl;(rw [hfl]; omega);exact yP (k := 0) rfl rfl;omega;omega;rfl;rfl;rfl)|(apply bH;rfl;rfl;rfl;rfl;rfl;(rw [aI]; simp only [fP] <;> omega);(exact rW (by (assumption)))))|refine aE ?_|fail)
 have hre : r = m[j]!.stk.take (k + 1) ++ shr (m[j]!.stk.drop (k + 1)) := by rw [hr]; rfl
 have hrl : r.length = k + 1 + (shr (List.drop (k + 1) m[j]!.stk)).length := by rw [hre,List.length_append,List.length_take]; omega
 (refine aB rfl ?_; refine aO () trivial ?_ ⟨sE ?_,⟨sE ?_,trivial⟩⟩)
 ·rfl
 ·refine congrArg some ?_
  show flat dP (cL m j (AV.own 5 0 (k + 1 - 0 + (shr (List.drop (k + 1) m[j]!.stk)).length) 2)) = _
  rw [hrl]; rfl
 ·refine congrArg some ?_
  show (List.drop 0 (flat bV m[j]!.stk)).take ((k + 1) * 2) ++ flat bV (List.drop 0 (shr (List.drop (k + 1) m[j]!.stk))) = _
  rw [List.drop_zero,List.drop_zero,cT bV (e := 2),bI,← hre]
theorem FA {m:List Cl}{j:Nat}{X:AV}{v:Int}(h:j < m.length):fA (flat dP (cL m j X)) (0 + j * 4 + 0) [iv v] = flat dP (cL (m.set j { m[j]! with val := v }) j X):=by
 have e : cL (m.set j { m[j]! with val := v }) j X = (cL m j X).set j ⟨v, m[j]!.alive, m[j]!.next, X⟩ := by
  have e2 : (m.set j { m[j]! with val := v })[j]! = { m[j]! with val := v } := by rw [aY _ _ (by rw [List.length_set]; exact h),List.getElem_set_self]
  unfold cL
  rw [e2,List.map_set,List.set_set,List.set_set]; rfl
 rw [e]
 exact dA (by rw [cF]; exact h) (by simp) (by rw [eY h]; rfl)
theorem FF {m:List Cl}{j:Nat}{X:AV}{b:Bool}(h:j < m.length):fA (flat dP (cL m j X)) (0 + j * 4 + 1) [.v (.bool b)] = flat dP (cL (m.set j { m[j]! with alive := b }) j X):=by
 have e : cL (m.set j { m[j]! with alive := b }) j X = (cL m j X).set j ⟨m[j]!.val, b, m[j]!.next, X⟩ := by
  have e2 : (m.set j { m[j]! with alive := b })[j]! = { m[j]! with alive := b } := by rw [aY _ _ (by rw [List.length_set]; exact h),List.getElem_set_self]
  unfold cL
  rw [e2,List.map_set,List.set_set,List.set_set]; rfl
 rw [e]
 exact dA (by rw [cF]; exact h) (by simp) (by rw [eY h]; rfl)
theorem l3 (m:List Cl) (hm:OkM m) (x:Pt):PC Tryz.prog 202 [sl bP m,Bx x] (fun r => r = .tup [sl bP (n3 m x false),iv (oY m x),iv (a8 m x false)]):=by
 have hml := hm.l
 by_cases hk : a8 m x false = 0
 ·obtain ⟨c, t⟩ := x
  obtain ⟨h1,h2,h3,h4,_⟩ := e5 hk
  obtain ⟨j,rfl⟩ := Int.eq_ofNat_of_zero_le (show 0 ≤ c from h1)
  have hj : j < m.length := by have : (j : Int) < m.length := h2;omega
  obtain ⟨k,hkk⟩ := Int.eq_ofNat_of_zero_le (show 0 ≤ bR m[j]!.stk t from h4)
  obtain ⟨r,hr⟩ : ∃ r,r = gQ m[j]!.stk k false := ⟨_,rfl⟩
  have hto := vI m j t r k m.length hm rfl hj hkk h3 hr
  have hog := eY (m := m) (j := j) (X := .own (0 + 1 + 3 + 3) 0 r.length 2) hj
  have hol := cF (m := m) (j := j) (X := .own (0 + 1 + 3 + 3) 0 r.length 2)
  refine aC Tryz.func202 Tryz.ntmps202 ?_
  repeat' (first|(apply aD;first|(apply k8 (j := j);rfl;exact nZ m j hm hj;rfl;rfl)|(apply pZ (m := m) (j := j) (t := t) (r := r) (n := m.length);rfl;rfl;rfl;rfl;rfl;rfl;exact hto;rfl;rfl))|refine aE ?_|refine cE ?_|fail)
  refine aS (Le.cls (o := 2) (q := 7) (j := j) (k := r.length) (m := m) (r := r) rfl rfl rfl hj (by decide)) ?_
  refine aS (Le.frzD (d := 4) (i := 2) rfl rfl) ?_
  rw [hog]
  refine aB (l := [.imm m.length (flat bP (m.set j { m[j]! with stk := r })),iv m[j]!.val,iv 0]) rfl ?_
  have eM : n3 m ⟨j, t⟩ false = m.set j { m[j]! with stk := r } := by
   unfold n3 oU;rw [if_pos hk]; dsimp only
   rw [Int.toNat_natCast,hkk,Int.toNat_natCast,hr]
  have eN : oY m ⟨j,t⟩ = m[j]!.val := by unfold oY;rw [if_pos hk]; rfl
  rw [eM,eN,hk,iK (by rw [List.length_set])]
  exact ⟨rfl,by exact Pur.pf⟩
 ·refine aC Tryz.func202 Tryz.ntmps202 ?_
  repeat' (first|(apply aD;first|(apply eI;rfl;exact gD m hm;rfl;rfl)|(apply jK (m := m) (x := x) (wr := false) (n := m.length);rfl;rfl;rfl;rfl;exact kH m x false _ hm rfl hk;rfl;rfl))|refine aE ?_|(refine aM ?_ ?_ <;> intro hc hq <;> try (exfalso;omega))|fail)
  (refine aS (Le.frzD (d := 4) (i := 2) rfl rfl) ?_; refine aB rfl ?_)
  refine ⟨?_,by exact Pur.pf⟩
  simp only [aP]
  unfold n3 oY;rw [if_neg hk,if_neg hk]
theorem vQ (m:List Cl) (hm:OkM m) (x:Pt):PC Tryz.prog 243 [sl bP m,Bx x] (fun r => r = .tup [sl bP (l4 m x),iv (a8 m x true)]):=by
 have hml := hm.l
 by_cases hk : a8 m x true = 0
 ·obtain ⟨c, t⟩ := x
  obtain ⟨h1,h2,h3,h4,hu⟩ := e5 hk
  obtain ⟨j,rfl⟩ := Int.eq_ofNat_of_zero_le (show 0 ≤ c from h1)
  have hj : j < m.length := by have : (j : Int) < m.length := h2;omega
  obtain ⟨k,hkk⟩ := Int.eq_ofNat_of_zero_le (show 0 ≤ bR m[j]!.stk t from h4)
  have huk : m[j]!.stk[k]!.uq = true := by
   have h : m[j]!.stk[(bR m[j]!.stk t).toNat]!.uq = true := hu rfl
   rwa [hkk,Int.toNat_natCast] at h
  have htw := nU m j t k m.length hm rfl hj hkk h3 huk
  have hrl : (m[j]!.stk.take (k + 1)).length = k + 1 := by
   have hb := eW m[j]!.stk t
   rw [List.length_take]; omega
  have hol := cF (m := m) (j := j) (X := .own (0 + 1 + 2) 0 (k + 1) 2)
  have hls : (m.set j { m[j]! with alive := false }).length = m.length := List.length_set
  refine aC Tryz.func243 Tryz.ntmps243 ?_
  repeat' (first|(apply aD;first|(apply k8 (j := j);rfl;exact nZ m j hm hj;rfl;rfl)|(apply qK (m := m) (j := j) (t := t) (k := k) (n := m.length);rfl;rfl;rfl;rfl;rfl;rfl;exact htw;rfl;rfl)|(apply bH;rfl;rfl;rfl;rfl;rfl;(rw [aI]; simp only [List.length_append,List.length_cons,List.length_nil]; omega);exact FF hj))|refine aE ?_|fail)
  refine aS (Le.cls (o := 2) (q := 3) (j := j) (k := k + 1) (m := m.set j { m[j]! with alive := false }) (r := m[j]!.stk.take (k + 1)) rfl rfl hrl.symm (by rw [hls]; exact hj) (by decide)) ?_
  refine aS (Le.frzD (d := 4) (i := 2) rfl rfl) ?_
  rw [mJ hj,set_set]
  refine aB (l := [.imm m.length (flat bP (m.set j { m[j]! with alive := false,stk := m[j]!.stk.take (k + 1) })),iv 0]) rfl ?_
  have eM : l4 m ⟨j, t⟩ = m.set j { m[j]! with alive := false, stk := m[j]!.stk.take (k + 1) } := by
   unfold l4 oU;rw [if_pos hk]; dsimp only
   rw [Int.toNat_natCast,hkk,Int.toNat_natCast]; unfold gQ;rw [if_pos rfl]
  rw [eM,hk,iK (by rw [List.length_set])]
  exact ⟨rfl,by exact Pur.pf⟩
 ·refine aC Tryz.func243 Tryz.ntmps243 ?_
  repeat' (first|(apply aD;first|(apply eI;rfl;exact gD m hm;rfl;rfl)|(apply jK (m := m) (x := x) (wr := true) (n := m.length);rfl;rfl;rfl;rfl;exact kH m x true _ hm rfl hk;rfl;rfl))|refine aE ?_|(refine aM ?_ ?_ <;> intro hc hq <;> try (exfalso;omega))|fail)
  (refine aS (Le.frzD (d := 4) (i := 2) rfl rfl) ?_; refine aB rfl ?_)
  refine ⟨?_,by exact Pur.pf⟩
  simp only [aP]
  unfold l4;rw [if_neg hk]
theorem qS (m:List Cl) (hm:OkM m) (x:Pt) (v:Int):PC Tryz.prog 203 [sl bP m,Bx x,iv v] (fun r => r = .tup [sl bP (D1 m x v),iv (Bv m x v)]):=by
 have hml := hm.l
 by_cases hv : 0 ≤ v ∧ v ≤ 9
 case neg =>
  have hwk : Bv m x v = 4 := by unfold Bv;rw [if_neg hv]
  have e : D1 m x v = m := by unfold D1;rw [if_neg (by rw [hwk]; decide)]
  refine aC Tryz.func203 Tryz.ntmps203 ?_
  repeat' (first|(apply aD;first|(apply eI;rfl;exact gD m hm;rfl;rfl)|(apply aA (k := 54);rfl;(apply bQ);(rfl);rfl))|refine aE ?_|(refine aM ?_ ?_ <;> intro hc hq <;> try (exfalso;omega))|fail)
  all_goals (try (exfalso;omega))
  all_goals (
   (refine aS (Le.frzD (d := 6) (i := 2) rfl rfl) ?_; refine aB rfl ?_)
   refine ⟨?_,by exact Pur.pf⟩
   simp only [aP]
   rw [e,hwk])
 case pos =>
 have hwk : Bv m x v = a8 m x true := by unfold Bv;rw [if_pos hv]
 by_cases hk : a8 m x true = 0
 ·obtain ⟨c, t⟩ := x
  obtain ⟨h1,h2,h3,h4,hu⟩ := e5 hk
  obtain ⟨j,rfl⟩ := Int.eq_ofNat_of_zero_le (show 0 ≤ c from h1)
  have hj : j < m.length := by have : (j : Int) < m.length := h2;omega
  obtain ⟨k,hkk⟩ := Int.eq_ofNat_of_zero_le (show 0 ≤ bR m[j]!.stk t from h4)
  have huk : m[j]!.stk[k]!.uq = true := by
   have h : m[j]!.stk[(bR m[j]!.stk t).toNat]!.uq = true := hu rfl
   rwa [hkk,Int.toNat_natCast] at h
  have htw := nU m j t k m.length hm rfl hj hkk h3 huk
  have hrl : (m[j]!.stk.take (k + 1)).length = k + 1 := by
   have hb := eW m[j]!.stk t
   rw [List.length_take]; omega
  have hol := cF (m := m) (j := j) (X := .own (0 + 1 + 2) 0 (k + 1) 2)
  have hls : (m.set j { m[j]! with val := v }).length = m.length := List.length_set
  refine aC Tryz.func203 Tryz.ntmps203 ?_
  repeat' (first|(apply aD;first|(apply k8 (j := j);rfl;exact nZ m j hm hj;rfl;rfl)|(apply qK (m := m) (j := j) (t := t) (k := k) (n := m.length);rfl;rfl;rfl;rfl;rfl;rfl;exact htw;rfl;rfl)|(apply bH;rfl;rfl;rfl;rfl;rfl;(rw [aI]; simp only [List.length_append,List.length_cons,List.length_nil]; omega);exact FA hj)|(apply aA (k := 54);rfl;(apply bQ);(rfl);rfl))|refine aE ?_|(refine aM ?_ ?_ <;> intro hc hq <;> try (exfalso;omega))|fail)
  refine aS (Le.cls (o := 2) (q := 3) (j := j) (k := k + 1) (m := m.set j { m[j]! with val := v }) (r := m[j]!.stk.take (k + 1)) rfl rfl hrl.symm (by rw [hls]; exact hj) (by decide)) ?_
  refine aS (Le.frzD (d := 6) (i := 2) rfl rfl) ?_
  rw [mJ hj,set_set]
  refine aB (l := [.imm m.length (flat bP (m.set j { m[j]! with val := v,stk := m[j]!.stk.take (k + 1) })),iv 0]) rfl ?_
  have eM : D1 m ⟨j, t⟩ v = m.set j { m[j]! with val := v, stk := m[j]!.stk.take (k + 1) } := by
   unfold D1 oU;rw [hwk,if_pos hk]; dsimp only
   rw [Int.toNat_natCast,hkk,Int.toNat_natCast]; unfold gQ;rw [if_pos rfl]
  rw [eM,hwk,hk,iK (by rw [List.length_set])]
  exact ⟨rfl,by exact Pur.pf⟩
 ·refine aC Tryz.func203 Tryz.ntmps203 ?_
  repeat' (first|(apply aD;first|(apply eI;rfl;exact gD m hm;rfl;rfl)|(apply jK (m := m) (x := x) (wr := true) (n := m.length);rfl;rfl;rfl;rfl;exact kH m x true _ hm rfl hk;rfl;rfl)|(apply aA (k := 54);rfl;(apply bQ);(rfl);rfl))|refine aE ?_|(refine aM ?_ ?_ <;> intro hc hq <;> try (exfalso;omega))|fail)
  (refine aS (Le.frzD (d := 6) (i := 2) rfl rfl) ?_; refine aB rfl ?_)
  refine ⟨?_,by exact Pur.pf⟩
  simp only [aP]
  unfold D1;rw [hwk,if_neg hk]
end Go.Proofs.YtahdccneecdmmaaGreat
