/-
 A part of the proofs over this program: rules and contracts of its functions (the contracts).
-/
import Derived.Test.YtjcpngimjdckmaaGreatQ2B03
set_option linter.unusedVariables false
set_option linter.unusedSimpArgs false
set_option maxHeartbeats 8000000
set_option maxRecDepth 4000
attribute [local irreducible] Go.AL.RW Go.AL.AW Go.AL.Stop
namespace Go.Proofs.YtjcpngimjdckmaaGreat
open Go.AL Go.RowKit
theorem BZ (v:Int) (h0:0 ≤ v) (h1:v ≤ 25):PC Tryz.prog 214 [iv v] (fun r => r = sv (hU v)) := by
 (refine aT Tryz.func214 rfl (by simp [Tryz.ntmps214]) ?_; rw [Tryz.ntmps214])
 repeat' (first|(apply aK;first|(apply IT;rfl;rfl;omega;rfl)|((apply FY (ns := [_]));(case hx|hs'|hN => rfl))|(apply Bn;rfl;omega;rfl)|(apply aE;rfl;rfl)|(apply aC;rfl;rfl)|(apply aF;kernel_rfl)|(apply cD;rfl;rfl;rfl;exact (rfl:_=some [_]);rfl;rfl))|(apply aL;first|apply aH|apply aB|apply aP)|with_reducible apply aA|((with_reducible apply aO);case hr => rfl))
 exact ⟨rfl, rfl⟩
theorem G9 (n:Int) (h0:0 ≤ n) (h1:n ≤ 9):PC Tryz.prog 215 [iv n] (fun r => r = sv (B9 n)) := by
 (refine aT Tryz.func215 rfl (by simp [Tryz.ntmps215]) ?_; rw [Tryz.ntmps215])
 repeat' (first|(apply aK;first|(apply aE;rfl;rfl)|(apply aS;rfl;rfl;rfl;rfl)|(apply aC;rfl;rfl)|(apply aF;kernel_rfl))|(apply aL;first|apply aH|apply aB|(apply aN;rfl;all_goals intro hc;have hq:=hc;(try simp only [cH] at hq);try exfalso;omega)|apply aM|apply aR)|with_reducible apply aA)
 refine bF (σ := Unit) [0, 3] [(0, _), (3, _)] [] [] (fun u => []) (fun u => []) (fun u => True) (fun u => 0) () trivial rfl rfl (by repeat' (exact trivial)) (by repeat' (exact trivial)) ?_
 rintro u _
 repeat' (first|(apply aK;first|(apply lU;rfl;rfl;(rfl);rfl)|((apply FY (ns := [_]));(case hx|hs'|hN => rfl))|(apply Bn;rfl;omega;rfl)|(apply aE;rfl;rfl)|(first|(apply bR;rfl;rfl;omega;rfl)|(apply aS;rfl;rfl;rfl;rfl))|(apply aC;rfl;rfl)|(apply aF;kernel_rfl)|(apply cD;rfl;rfl;rfl;exact (rfl:_=some [_]);rfl;rfl))|(apply aL;first|apply aH|apply aB|(apply aN;rfl;all_goals intro hc;have hq:=hc;(try simp only [cH] at hq);try exfalso;omega)|apply bI|apply aP)|with_reducible apply aA|with_reducible apply bJ|with_reducible apply bG|((with_reducible apply aO);case hr => rfl))
 exact ⟨rfl, rfl⟩
theorem D2 (s:AL.Stmt) (hc:dO s ≤ 10000) (hop:(s.op = 9 ∨ s.op = 10) ∨ (1 ≤ s.op ∧ s.op ≤ 8 ∧ 0 ≤ s.x ∧ s.x ≤ 5 ∧ 0 ≤ s.y ∧ s.y ≤ 5 ∧ (s.op = 1 ∨ s.op = 2 → 0 ≤ s.n ∧ s.n ≤ 9)))
  (hth : s.op = 9 ∨ s.op = 10 → PC Tryz.prog 163 [sl aX s.th] (fun r => r = sv (j1 s.th))) (hel : s.op = 9 → PC Tryz.prog 163 [sl aX s.el] (fun r => r = sv (j1 s.el))) : PC Tryz.prog 195 [fA s] (fun r => r = sv (lY s)) := by
 have k1 := lQ s.th
 have k2 := lQ s.el
 have k3 := gM s
 (refine aT Tryz.func195 rfl (by simp [Tryz.ntmps195]) ?_; rw [Tryz.ntmps195])
 repeat' (first|(apply aK;first|(apply lU;rfl;rfl;(first|rfl|exact sT (by (simp only [ByteArray.size_append, pU, List.length_cons, List.length_nil, nC, nM, p8] <;> omega)));rfl)|(apply aE;rfl;rfl)|(apply aJ;rfl;rfl;rfl;rfl)|(apply aD;rfl;rfl;rfl)|(apply aS;rfl;rfl;rfl;rfl)|(apply aC;rfl;rfl)|(first|((with_reducible apply aI (k := 163));(case ha => rfl);(case h => (first|(apply hth;omega)|(apply hel;omega)));(case hp => (exact Pur.pf));(case hN => rfl))|((with_reducible apply aI (k := 214));(case ha => rfl);(case h => (apply BZ <;> (omega)));(case hp => (rfl));(case hN => rfl))|((with_reducible apply aI (k := 215));(case ha => rfl);(case h => (apply G9 <;> (omega)));(case hp => (rfl));(case hN => rfl)))|(apply aF;kernel_rfl)|(apply bT;rfl;rfl;rfl;rfl))|(apply aL;first|apply aH|apply aB|(apply bZ;kernel_rfl)|(apply aN;rfl;all_goals intro hc;have hq:=hc;(try simp only [cH] at hq);try exfalso;omega)|apply aM|apply aR|apply aP)|with_reducible apply aA|with_reducible apply bH|with_reducible apply aW|with_reducible apply cX|((with_reducible apply aO);case hr => rfl))
 all_goals (refine ⟨?_, rfl⟩; rw [E1]; repeat' split)
 all_goals (first|rfl|omega)
theorem Ah (l:List AL.Stmt) (hc:bO l ≤ 10000) (text_ih:∀ k,k < l.length → PC Tryz.prog 195 [fA l[k]!] (fun r => r = sv (lY l[k]!))):PC Tryz.prog 163 [sl aX l] (fun r => r = sv (j1 l)) := by
 have hlen := dG l
 (refine aT Tryz.func163 rfl (by simp [Tryz.ntmps163]) ?_; rw [Tryz.ntmps163])
 repeat' (first|(apply aK;first|(apply aC;rfl;rfl)|(apply aF;kernel_rfl))|(apply aL;first|apply aH|apply aB|apply aM)|with_reducible apply aA)
 refine bF (σ := Nat × ByteArray) [0] [(0, _)] [] [] (fun k => [(4, iv (k.1 : Int)), (3, sv k.2)]) (fun k => []) (fun k => k.1 ≤ l.length ∧ k.2 = j1 (l.take k.1)) (fun k => l.length - k.1) (0, ⟨#[]⟩) ⟨by omega, rfl⟩ rfl rfl (by repeat' (first|exact trivial|refine And.intro rfl ?_)) (by repeat' (exact trivial)) ?_
 rintro ⟨k, t⟩ ⟨hk, ht⟩
 dsimp only at hk ht ⊢
 have k1 := lQ (l.take k)
 have k2 := uL l[k]!
 have hck := gD l k
 have hct : bO (l.take k) ≤ bO l := by have := fI (l.take k) (l.drop k);rw [List.take_append_drop] at this;omega
 have k3 : t.size = (j1 (l.take k)).size := by rw [ht]
 repeat' (first|(apply aK;first|(apply lU;rfl;rfl;(exact sT (by (first|omega|(simp only [ByteArray.size_append, pU, List.length_cons, List.length_nil, nC, nM, p8] <;> omega))));rfl)|(apply aE;rfl;rfl)|(apply aU;rfl;rfl;(exact (rfl:_=[_, _, _, _, _, _]));rfl;rfl;rfl)|(first|(apply bR;rfl;rfl;omega;rfl)|(apply aS;rfl;rfl;rfl;rfl))|(apply aC;rfl;rfl)|(apply a7;(case hx|hi => rfl);(case hm => (omega));(case hml => (rfl));(case hα | hf|hg => infer_instance);(case hN => rfl))|((with_reducible apply aI (k := 195));(case ha => rfl);(case h => (apply text_ih <;> (omega)));(case hp => (exact Pur.pf));(case hN => rfl))|(apply a8;rfl;rfl;rfl)|(apply aF;kernel_rfl))|(apply aL;first|apply aH|apply aB|(apply aN;rfl;all_goals intro hc;have hq:=hc;(try simp only [cH] at hq);try exfalso;omega)|apply aM|apply aR|apply bI|apply aP)|with_reducible apply aA|with_reducible apply bJ|with_reducible apply aW|with_reducible apply bG|((with_reducible apply aO);case hr => rfl))
 ·(apply dV (k + 1, _); focus (refine Le.ren [] rfl (by decide) ?_ ?_ <;> repeat' (first | exact trivial | refine And.intro ⟨_, rfl, ?_⟩ ?_ | refine Or.inl ⟨?_, (by first | rfl | exact aZ _ _)⟩ | rfl)))
  ·exact ⟨by dsimp only;omega, by dsimp only;rw [vS l k (by omega), rJ, if_pos (by omega), ht]⟩
  ·dsimp only;omega
 ·(apply dV (k + 1, _); focus (refine Le.ren [] rfl (by decide) ?_ ?_ <;> repeat' (first | exact trivial | refine And.intro ⟨_, rfl, ?_⟩ ?_ | refine Or.inl ⟨?_, (by first | rfl | exact aZ _ _)⟩ | rfl)))
  ·exact ⟨by dsimp only;omega, by dsimp only;rw [vS l k (by omega), rJ, if_neg (by omega), ht]⟩
  ·dsimp only;omega
 ·have hke : k = l.length := by omega
  refine ⟨?_, rfl⟩
  rw [ht, hke, List.take_length]; rfl
theorem Hf (ts:List Int) (hts:cZ ts = true):∀ m:Nat,m ≤ 10000 → ∀ l d,bO l ≤ m → okL ts d l = true → PC Tryz.prog 163 [sl aX l] (fun r => r = sv (j1 l)) := by
 intro m
 induction m with
 | zero =>
  intro hm l d hc ho
  have := dG l
  exact Ah l (by omega) (fun k hk => by omega)
 | succ m ih =>
  intro hm l d hc ho
  refine Ah l (by omega) (fun k hk => ?_)
  have hck := gD l k hk
  have hct := iR l[k]!
  have hs : oQ ts d l[k]! = true := by rw [qS, kG] at ho;exact ho k hk
  rw [o5] at hs
  by_cases h9 : l[k]!.op ≠ 9 ∧ l[k]!.op ≠ 10
  ·rw [if_pos h9] at hs
   simp only [Bool.and_eq_true] at hs
   exact D2 _ (by omega) (.inr (Ei hts hs.2)) (fun h => by omega) (fun h => by omega)
  ·rw [if_neg h9] at hs
   cases d with
   | zero => cases hs
   | succ d =>
    simp only [Bool.and_eq_true] at hs
    exact D2 _ (by omega) (.inl (by omega)) (fun h => ih (by omega) _ d (by omega) hs.1.2) (fun h => ih (by omega) _ d (by omega) hs.2)
theorem F7 (ts:List Int) (d:Nat) (l:List AL.Stmt) (hts:cZ ts = true) (hc:bO l ≤ 10000) (ho:okL ts d l = true):PC Tryz.prog 163 [sl aX l] (fun r => r = sv (j1 l)) := Hf ts hts _ hc l d (Nat.le_refl _) ho
def A8 (s : ByteArray) : List AV := [.v (.string s)]
instance : FlT A8 1 := ⟨fun _ => rfl⟩
instance : FE A8 (fun s => [.v (.string s)]) := ⟨fun _ => rfl⟩
instance (s : ByteArray) : Pur (A8 s) := ⟨rfl⟩
theorem Le.slotEq {ts:List (Nat × AV)}{hs:List (Nat × Option (List AV))}{n:Nat}{z0:Lo}{d:Nat}(v v':AV) (hd:lk ts d = some v) (h:v = v'):Le ⟨ts,hs,n,z0⟩ ⟨(d,v') :: ts,hs,n,z0⟩ :=
 Le.slot hd fun w bad ι y hr => h ▸ hr
def kinds : List ByteArray := [⟨#[]⟩, ⟨#[105]⟩, ⟨#[98]⟩, ⟨#[114]⟩, ⟨#[109]⟩]
theorem CR (k:Nat):(kinds[k]!).size ≤ 1 := by
 match k with
 | 0 => decide
 | 1 => decide
 | 2 => decide
 | 3 => decide
 | 4 => decide
 | k + 5 => exact (show (default : ByteArray).size ≤ 1 from by decide)
theorem AP (p:Prg) (hv:cP p = true):PC Tryz.prog 122 [dH p] (fun r => ∃ t,r = sv t) := by
 have hv2 := hv
 simp only [cP, Bool.and_eq_true, decide_eq_true_eq] at hv2
 obtain ⟨⟨hts, hol⟩, hcn⟩ := hv2
 have hl6 := fV hts
 have htx := lQ p.body
 (refine aT Tryz.func122 rfl (by simp [Tryz.ntmps122]) ?_; rw [Tryz.ntmps122])
 repeat' (first|(apply aK;first|(apply aC;rfl;rfl)|(apply aF;kernel_rfl)|(apply bT;rfl;rfl;rfl;rfl))|(apply aL;first|apply aH|apply aB|apply aM)|with_reducible apply aA)
 refine bF (σ := Nat × ByteArray) [1] [(1, _)] [0] [(0, some _)] (fun k => [(4, iv (k.1 : Int)), (3, sv k.2)]) (fun k => []) (fun k => k.1 ≤ p.types.length ∧ k.2.size ≤ k.1) (fun k => p.types.length - k.1) (0, ⟨#[]⟩) ⟨by omega, by show 0 ≤ 0;omega⟩ rfl rfl (by repeat' (first|exact trivial|refine And.intro rfl ?_)) (by repeat' (exact trivial)) ?_
 rintro ⟨k, t⟩ ⟨hk, ht⟩
 dsimp only at hk ht ⊢
 have htk := lI hts k
 have hkz : (kinds[(p.types[k]!).toNat]!).size ≤ 1 := CR _
 have hkl : kinds.length = 5 := rfl
 repeat' (first|(apply aK;first|(with_reducible apply dE (d := 14))|((with_reducible apply aI (k := 163));(case ha => rfl);(case h => exact F7 p.types 4 p.body hts (by omega) hol);(case hp => (exact Pur.pf));(case hN => rfl))|(apply lU;rfl;rfl;(exact sT (by (simp only [ByteArray.size_append, pU, List.length_cons, List.length_nil, nC, nM, p8] <;> omega)));rfl)|(apply aE;rfl;rfl)|(apply aJ;rfl;rfl;rfl;rfl)|(apply aD;rfl;rfl;rfl)|(apply aS;rfl;rfl;rfl;rfl)|(apply aC;rfl;rfl)|(apply a8;rfl;rfl;rfl)|(apply aF;kernel_rfl)|((apply bS (t := _));(case hze|hsm|hl => rfl);(case hfl => (exact (rfl:_=some [_, _, _, _, _])));(case hM|hN => rfl)))|(apply aL;first|apply aH|apply aB|(apply aN;rfl;all_goals intro hc;have hq:=hc;(try simp only [cH] at hq);try exfalso;omega)|apply aM|apply aR|apply bI|apply aP)|with_reducible apply aA|with_reducible apply bJ|with_reducible apply bG)
 ·refine eX (kL ?_ (Le.slotEq (d := 13) _ (.imm 5 (flat A8 kinds)) rfl rfl))
  repeat' (first|(apply aK;first|(apply lU;rfl;rfl;(exact sT (by (omega)));rfl)|(apply aE;rfl;rfl)|(apply aJ;rfl;rfl;rfl;rfl)|(apply aD;rfl;rfl;rfl)|(apply bR;rfl;rfl;omega;rfl)|(apply aC;rfl;rfl)|(first|(apply a7;(case hx|hi => rfl);(case hm => (omega));(case hml => (rfl));(case hα | hf|hg => infer_instance);(case hN => rfl))|(apply cO;(case hx|hi => rfl);(case hm => (omega));(case hml => (rfl));(case hα | hf|hg => infer_instance);(case hN => rfl)))|(apply aF;kernel_rfl))|(apply aL;(apply aB))|with_reducible apply aA|with_reducible apply aW)
  (apply dV (k + 1, _);focus (refine Le.ren [(0, 0)] rfl (by decide) ?_ ?_ <;> repeat' (first|exact trivial|refine And.intro ⟨_, rfl, ?_⟩ ?_|refine And.intro ⟨_, _, rfl, rfl, ?_⟩ ?_|exact Or.inr rfl|refine Or.inl ⟨?_, (by first|rfl|exact Pur.pf)⟩|rfl)))
  ·exact ⟨by dsimp only;omega, by dsimp only;rw [ByteArray.size_append]; omega⟩
  ·dsimp only;omega
 ·refine aO rfl ⟨⟨_, rfl⟩, rfl⟩
theorem Ga {s:ByteArray}(b:Bool):(∃ (q:Prg) (b':Bool),AV.tup [AV.agg [.imm 0 [],.imm 0 []],bv b] = .tup [dH q,bv b'] ∧ bO q.body ≤ s.size + 10 ∧ q.types.length ≤ s.size + 10) :=
 ⟨⟨[], []⟩, b, rfl, by simp [bO], by simp⟩
theorem mN (s:ByteArray) (hs:s.size ≤ 10000):PC Tryz.prog 68 [sv s] (fun r => ∃ (q:Prg) (b:Bool),r = .tup [dH q,bv b] ∧ bO q.body ≤ s.size + 10 ∧ q.types.length ≤ s.size + 10) := by
 (refine aT Tryz.func68 rfl (by simp [Tryz.ntmps68]) ?_; rw [Tryz.ntmps68])
 repeat' (first|(apply aK;first|(with_reducible apply dE (d := 13))|(apply aE;rfl;rfl)|(apply aS;rfl;rfl;rfl;rfl)|(apply aC;rfl;rfl)|(apply kC;rfl;rfl)|(apply aF;kernel_rfl)|(apply bW;rfl;(exact (rfl:_=some [_, _]));(exact (rfl:_=[_, _]));rfl)|(apply bB;rfl;rfl)|(apply aV;rfl;rfl;rfl;rfl;rfl;(decide);(exact (rfl:_=[_, _]))))|(apply aL;first|apply aH|apply aB|(apply aN;rfl;all_goals intro hc;have hq:=hc;(try simp only [cH] at hq);try exfalso;omega)|apply aR|apply aP)|with_reducible apply aA|with_reducible apply bH)
 ·exact aO (l := [.agg [.imm 0 [], .imm 0 []], bv false]) rfl ⟨Ga false, rfl⟩
 refine eX ?_
 apply Bg
 case hl => rfl
 case hf => exact (rfl:_=some [AV.v (.slice none 0 0), AV.v (.slice none 0 0)])
 case hN => rfl
 repeat' (first|(apply aK;first|(apply aC;rfl;rfl)|(apply aF;kernel_rfl)|(apply bB;rfl;rfl)|(apply aV;rfl;rfl;rfl;rfl;rfl;(decide);(exact (rfl:_=[_, _]))))|(apply aL;first|apply aH|apply aB|apply aM)|with_reducible apply aA)
 apply AW.le
 case k => exact Le.nilCell (i := 1) 1 [] rfl (by decide) (by decide)
 refine bF (σ := Nat × List Int × Nat) [0, 2, 4] [(0, _), (2, _), (4, _)] [0] [(0, some _)] (fun k => [(5, iv (k.1 : Int))]) (fun k => [(1, some [.own 2 0 k.2.2 1, .v (.slice none 0 0)]), (2, some (flat cI k.2.1))]) (fun k => k.1 ≤ s.size ∧ k.2.1.length = k.1 ∧ k.2.2 = k.2.1.length) (fun k => s.size - k.1) (0, [], 0) ⟨by omega, rfl, rfl⟩ rfl rfl (by repeat' (first|exact trivial|refine And.intro rfl ?_)) (by repeat' (first|exact trivial|refine And.intro (.inr rfl) ?_)) ?_
 rintro ⟨k, xs, m⟩ ⟨hk, hxl, hm⟩
 dsimp only at hk hxl hm ⊢
 repeat' (first|(apply aK;first|(with_reducible apply dE (d := 43))|(apply qJ;rfl;rfl;omega;rfl)|(apply aE;rfl;rfl)|(apply aJ;rfl;rfl;rfl;rfl)|(apply aD;rfl;rfl;rfl)|(first|(apply aY;rfl;rfl;rfl;(assumption))|(apply a6;rfl;rfl;rfl;(assumption))|(apply bE;(case hj|hb|hN => rfl);all_goals (intro hg;have hq := hg;(try simp only [cH] at hq);(try (exfalso;omega)))))|(first|(apply bR;rfl;rfl;omega;rfl)|(apply aS;rfl;rfl;rfl;rfl))|(apply aC;rfl;rfl)|(first|(apply bK;rfl;(assumption);rfl;rfl)|(apply bC;rfl;(assumption);rfl;rfl))|(first|(apply kC;rfl;rfl)|(apply cJ;rfl;rfl;rfl;rfl;rfl;(rw [aQ]; omega);(rfl);omega;omega;(exact lE (by (assumption)));rfl;rfl))|(apply aF;kernel_rfl)|((apply bS (t := _));(case hze|hsm|hl => rfl);(case hfl => exact (rfl:_=some [_]));(case hM|hN => rfl))|(apply aV;rfl;rfl;rfl;rfl;rfl;(case hl => (simp;done));(exact (rfl:_=[_, _]))))|(apply aL;first|apply aH|apply aB|(apply cG;rfl;(rfl))|(apply aN;rfl;all_goals intro hc;have hq:=hc;(try simp only [cH] at hq);try exfalso;omega)|apply aM|apply aR|apply bI)|with_reducible apply aA|with_reducible apply bJ|with_reducible apply aW|with_reducible apply bG)
 ·(apply dV (k + 1, xs ++ [1], m + 1); focus (refine Le.ren [(0, 0), (1, 1), (2, 4)] rfl (by decide) ?_ ?_ <;> repeat' (first | exact trivial | refine And.intro ⟨_, rfl, ?_⟩ ?_ | refine And.intro ⟨_, _, rfl, rfl, ?_⟩ ?_ | exact Or.inr rfl | refine Or.inl ⟨?_, (by first | rfl | exact aZ _ _)⟩ | refine Or.inr (All2.cons ?_ ?_) | refine All2.cons ?_ ?_ | exact All2.nil | rfl)))
  ·exact ⟨by dsimp only;omega, by simp [hxl], by simp [hm]⟩
  ·dsimp only;omega
 ·(apply dV (k + 1, xs ++ [2], m + 1); focus (refine Le.ren [(0, 0), (1, 1), (2, 4)] rfl (by decide) ?_ ?_ <;> repeat' (first | exact trivial | refine And.intro ⟨_, rfl, ?_⟩ ?_ | refine And.intro ⟨_, _, rfl, rfl, ?_⟩ ?_ | exact Or.inr rfl | refine Or.inl ⟨?_, (by first | rfl | exact aZ _ _)⟩ | refine Or.inr (All2.cons ?_ ?_) | refine All2.cons ?_ ?_ | exact All2.nil | rfl)))
  ·exact ⟨by dsimp only;omega, by simp [hxl], by simp [hm]⟩
  ·dsimp only;omega
 ·(apply dV (k + 1, xs ++ [3], m + 1); focus (refine Le.ren [(0, 0), (1, 1), (2, 4)] rfl (by decide) ?_ ?_ <;> repeat' (first | exact trivial | refine And.intro ⟨_, rfl, ?_⟩ ?_ | refine And.intro ⟨_, _, rfl, rfl, ?_⟩ ?_ | exact Or.inr rfl | refine Or.inl ⟨?_, (by first | rfl | exact aZ _ _)⟩ | refine Or.inr (All2.cons ?_ ?_) | refine All2.cons ?_ ?_ | exact All2.nil | rfl)))
  ·exact ⟨by dsimp only;omega, by simp [hxl], by simp [hm]⟩
  ·dsimp only;omega
 ·(apply dV (k + 1, xs ++ [4], m + 1); focus (refine Le.ren [(0, 0), (1, 1), (2, 4)] rfl (by decide) ?_ ?_ <;> repeat' (first | exact trivial | refine And.intro ⟨_, rfl, ?_⟩ ?_ | refine And.intro ⟨_, _, rfl, rfl, ?_⟩ ?_ | exact Or.inr rfl | refine Or.inl ⟨?_, (by first | rfl | exact aZ _ _)⟩ | refine Or.inr (All2.cons ?_ ?_) | refine All2.cons ?_ ?_ | exact All2.nil | rfl)))
  ·exact ⟨by dsimp only;omega, by simp [hxl], by simp [hm]⟩
  ·dsimp only;omega
 ·(apply dV (k + 1, xs ++ [0], m + 1); focus (refine Le.ren [(0, 0), (1, 1), (2, 4)] rfl (by decide) ?_ ?_ <;> repeat' (first | exact trivial | refine And.intro ⟨_, rfl, ?_⟩ ?_ | refine And.intro ⟨_, _, rfl, rfl, ?_⟩ ?_ | exact Or.inr rfl | refine Or.inl ⟨?_, (by first | rfl | exact aZ _ _)⟩ | refine Or.inr (All2.cons ?_ ?_) | refine All2.cons ?_ ?_ | exact All2.nil | rfl)))
  ·exact ⟨by dsimp only;omega, by simp [hxl], by simp [hm]⟩
  ·dsimp only;omega
 all_goals subst hm
 all_goals (refine eX (kL ?_ (Le.frzC (j := 1) (i := 2) [] rfl rfl (by decide))))
 all_goals repeat' (first|(apply aK;first|((with_reducible apply fN (k := 121));(case ha => rfl);(case h => (apply JX <;> omega));(case hp => (rfl));(case hN => rfl);(rintro _ ⟨l, nx, rfl, hql⟩ _))|((with_reducible apply aI (k := 57));(case ha => rfl);(case h => exact mD ⟨xs, l⟩ (by show xs.length ≤ _; omega) (by show bO l ≤ 100000000;rcases hql with ⟨_, h9⟩|h9;(rw [h9]; decide);omega));(case hp => (exact Pur.pf));(case hN => rfl))|((with_reducible apply fN (k := 122));(case ha => rfl);(case h => exact AP ⟨xs, l⟩ (by assumption));(case hp => (exact Pur.pf));(case hN => rfl);(rintro _ ⟨t, rfl⟩ _))|(apply lU;rfl;rfl;(rfl);rfl)|(apply aE;rfl;rfl)|(apply aU;rfl;rfl;(exact (rfl:_=[_, _]));rfl;rfl;rfl)|(apply aD;rfl;rfl;rfl)|(first|(apply aY;rfl;rfl;rfl;(assumption))|(apply a6;rfl;rfl;rfl;(first|rfl|assumption))|(apply bE;(case hj|hb|hN => rfl);all_goals (intro hg;have hq := hg;(try simp only [cH] at hq);(try (exfalso;omega)))))|(first|(apply bR;rfl;rfl;omega;rfl)|(apply aS;rfl;rfl;rfl;rfl))|(apply aC;rfl;rfl)|(first|(apply bK;rfl;(first|rfl|assumption);rfl;rfl)|(apply bC;rfl;(assumption);rfl;rfl))|(apply kC;rfl;rfl)|(apply aF;kernel_rfl)|(apply bW;rfl;(exact (rfl:_=some [_, _]));(exact (rfl:_=[_, _]));rfl)|(apply cF;rfl;rfl)|(apply b0;rfl;rfl;rfl)|(apply aV;rfl;rfl;rfl;rfl;rfl;(case hl => (first|decide|(simp;done)));(exact (rfl:_=[_, _]))))|(apply aL;first|apply aH|apply aB|(apply bU;rfl;(rfl))|(apply aN;rfl;all_goals intro hc;have hq:=hc;(try simp only [cH] at hq);try exfalso;omega)|apply aR|apply aP)|with_reducible apply aA|with_reducible apply bH)
 all_goals first
  | exact aO (l := [.agg [.imm 0 [], .imm 0 []], bv false]) rfl ⟨Ga false, rfl⟩
  | (refine aO (l := [.agg [.imm xs.length (flat cI xs), sl aX l], bv true]) rfl ⟨⟨⟨xs, l⟩, true, rfl, ?_, by show xs.length ≤ _; omega⟩, Pur.pf⟩
     show bO l ≤ _
     rcases hql with ⟨_, h9⟩|h9
     ·rw [h9]; simp [bO]
     ·omega)
class NumS (cs : List AV) (xs : outParam (List ByteArray)) : Prop where h : cs = flat A8 xs
instance NumS.nil : NumS [] [] := ⟨rfl⟩
instance NumS.cons {n : ByteArray} {cs : List AV} {xs : List ByteArray} [h : NumS cs xs] : NumS (.v (.string n) :: cs) (n :: xs) := ⟨by rw [h.h]; rfl⟩
theorem Bu {cs:List AV}{xs:List ByteArray}{m:Nat}(h:NumS cs xs) (hm:m = xs.length) (hs:xs.all (fun s => decide (s.size ≤ 600)) = true):∃ ys:List ByteArray,AV.imm m cs = sl A8 ys ∧ ys.length = m ∧ ∀ i:Nat,(ys[i]!).size ≤ 600 := by
 refine ⟨xs, by rw [h.h, hm], hm.symm, fun i => ?_⟩
 by_cases hi : i < xs.length
 ·rw [List.all_eq_true] at hs
  rw [cK _ _ hi]
  simpa using hs _ (List.getElem_mem hi)
 ·rw [getElem!_neg xs i hi]; decide
theorem Fe:PC Tryz.prog 70 [] (fun r => ∃ ys:List ByteArray,r = sl A8 ys ∧ ys.length = 25 ∧ ∀ i:Nat,(ys[i]!).size ≤ 600) := by
 (refine aT Tryz.func70 rfl (by simp [Tryz.ntmps70]) ?_; rw [Tryz.ntmps70])
 repeat' (first|(apply aK;first|((apply bS (t := _));(case hze|hsm|hl => rfl);(case hfl => exact (rfl:_=some [_, _, _, _, _, _, _, _, _, _, _, _, _, _, _, _, _, _, _, _, _, _, _, _, _]));(case hM|hN => rfl))|(apply aC;rfl;rfl)|(apply aF;kernel_rfl))|(apply aL;first|apply aH|apply aB|apply aP)|with_reducible apply aA)
 refine uI (l := [.imm 25 [_, _, _, _, _, _, _, _, _, _, _, _, _, _, _, _, _, _, _, _, _, _, _, _, _]]) ?_ rfl ?_
 ·rintro _ ⟨ys, rfl, _⟩; exact aZ _ _
 ·exact Bu inferInstance rfl (by decide)
theorem lL {P:Program}{N:Nat}{Q:Exit → AS → Prop}{all:Array Oper}{rest:List Oper}{ts:List (Nat × AV)}{hs:List (Nat × Option (List AV))}{n:Nat}{z0:Lo}{ty:TypeId}{pos:String}{af:Array Edge}{d:Nat}{args:Array Operand}{tys:Array TypeId}
  {k : FuncId} {pv : List AV} {p0 : Prg × Nat → Prop} {i p : Nat} {bs : List UInt8} (h : MC P k (.optr 0 0 :: pv) [(0, some (fE bs p))] 1 p0 (fun x => dH x.1) (fun x => [(0, some (fE bs x.2))])) [hc : CaT P k] (ha : evL (lk ts) args.toList = some (.optr i 0 :: pv)) (hpv : c9 pv = true)
  (hH : cA hs i = some (fE bs p)) (hM : Nat.ble (n + 0) dJ = true) (hN : Nat.blt d N = true) (kk : ∀ x, p0 x → RW P N all Q .txt rest ⟨(d, dH x.1) :: ts, (i, some (fE bs x.2)) :: hs, n + 0, z0⟩) :
  RW P N all Q .txt (⟨some d, .call ⟨.value (.func k), args, tys⟩, ty, pos, af, none⟩ :: rest) ⟨ts, hs, n, z0⟩ :=
 Aq (σ := Prg × Nat) [i] 1 (fun x : Prg × Nat => [(i, some (fE bs x.2))]) h ha rfl ⟨⟨_, _, rfl, hH, RnL.purI inferInstance⟩, trivial⟩ rfl (RnL.cons (RnV.optr rfl) (RnL.pur hpv)) (by simpa using hM)
  (fun x _ => RnV.purI inferInstance) (fun x _ => by simp [dT]) (fun x _ => ⟨⟨0, _, rfl, rfl, RnL.purI inferInstance⟩, trivial⟩) hN kk
theorem uC (bs:List UInt8) (p:Nat) (xs:List Int) (lo hi:Int) (h0:0 < xs.length) (h:xs.all (fun x => decide (lo ≤ x) && decide (x ≤ hi)) = true):lo ≤ gU bs p xs ∧ gU bs p xs ≤ hi := by
 have h1 := fP bs p (xs.length : Int)
 rw [kG] at h
 have := h (cT bs p (xs.length : Int)).toNat (by omega)
 simp only [Bool.and_eq_true, decide_eq_true_eq] at this
 exact this
theorem Gg (bs:List UInt8) (p:Nat) (hb:bs.length ≤ 2000) (hp:p ≤ 1000):MC Tryz.prog 74 [.optr 0 0] [(0,some (fE bs p))] 1 (fun x:Prg × Nat => bO x.1.body ≤ 620 ∧ x.1.types.length ≤ 620 ∧ x.2 ≤ 2000) (fun x => dH x.1) (fun x => [(0,some (fE bs x.2))]) := by
 have h0 := fP bs p 25
 have hn := uC bs (p + 1 + 1) [5, 4, 7, 3, 8] 0 8 (by decide) (by decide)
 (refine cC Tryz.func74 rfl (by simp [Tryz.ntmps74]) ?_; rw [Tryz.ntmps74])
 repeat' (first|(apply aK;first|((with_reducible apply fN (k := 70));(case ha => rfl);(case h => exact Fe);(case hp => (rfl));(case hN => rfl);(rintro _ ⟨ys, rfl, hyl, hsz⟩ _);(have hpk := fP bs p (ys.length : Int)))|((with_reducible apply fN (k := 68));(case ha => rfl);(case h => exact mN _ (Nat.le_trans (hsz _) (by decide)));(case hp => (rfl));(case hN => rfl);(rintro _ ⟨q, b, rfl, hqc, hqt⟩ _))|((apply wI (ts := [1, 2, 2, 3, 4, 4]));(case ha0|ha1|ha2|ha3|hH0 => rfl);(case hmc => (apply Gd <;> (first|assumption|omega)));(case hM|hN => rfl))|(apply aE;rfl;rfl)|(first|(apply aJ;rfl;rfl;rfl;rfl)|(apply aU;rfl;rfl;(exact (rfl:_=[_, _]));rfl;rfl;rfl))|(apply aD;rfl;rfl;rfl)|(first|(apply aY;rfl;rfl;rfl;(assumption))|(apply a6;rfl;rfl;rfl;(assumption))|(apply bE;(case hj|hb|hN => rfl);all_goals (intro hg;have hq := hg;(try simp only [cH] at hq);(try (exfalso;omega)))))|(apply aS;rfl;rfl;rfl;rfl)|(apply aC;rfl;rfl)|(first|(apply bK;rfl;(assumption);rfl;rfl)|(apply bC;rfl;(assumption);rfl;rfl))|(apply cO;(case hx|hi => rfl);(case hm => (omega));(case hml => (rfl));(case hα | hf|hg => infer_instance);(case hN => rfl))|(first|(apply jH;rfl;rfl;(rfl);(apply k9 <;> (first|assumption|omega));rfl;rfl)|(apply nQ;rfl;rfl;rfl;rfl;infer_instance;rfl;(rfl);assumption;omega;(decide);(decide);rfl;rfl))|(apply a8;rfl;rfl;rfl)|(apply aF;kernel_rfl)|(apply bW;rfl;(exact (rfl:_=some [_, _]));(exact (rfl:_=[_, _]));rfl)|(apply bB;rfl;rfl)|(apply b0;rfl;rfl;rfl)|((apply bS (t := _));(case hze|hsm|hl => rfl);(case hfl => (exact (rfl:_=some [_, _, _, _, _, _])));(case hM|hN => rfl))|(apply cD;rfl;rfl;rfl;(exact (rfl:_=some [_, _, _, _, _]));rfl;rfl)|(apply aV;rfl;rfl;rfl;rfl;rfl;(case hl => (first|decide|(simp;done)));(exact (rfl:_=[_, _]))))|(apply aL;first|apply aH|apply aB|(apply bZ;kernel_rfl)|(apply bU;rfl;(rfl))|(apply aN;rfl;all_goals intro hc;have hq:=hc;(try simp only [cH] at hq);try exfalso;omega)|apply aR|apply aP)|with_reducible apply aA|with_reducible apply bH)
 ·have h9 := hsz (cT bs p (ys.length : Int)).toNat
  refine aO rfl ?_
  exact bY (q, p + 1 + 1) ⟨by dsimp only;omega, by dsimp only;omega, by dsimp only;omega⟩ rfl ⟨.inr rfl, trivial⟩
 ·have h9 := Ju bs (d := 2) (by omega) (gU bs (p + 1 + 1) [5, 4, 7, 3, 8]) (p + 1 + 1 + 1)
  have h10 := x9 bs (d := 2) (by omega) (gU bs (p + 1 + 1) [5, 4, 7, 3, 8]) (p + 1 + 1 + 1)
  refine aO rfl ?_
  exact bY ((⟨[1, 2, 2, 3, 4, 4], (eW bs 2 (gU bs (p + 1 + 1) [5, 4, 7, 3, 8]) (p + 1 + 1 + 1)).1⟩ : Prg), (eW bs 2 (gU bs (p + 1 + 1) [5, 4, 7, 3, 8]) (p + 1 + 1 + 1)).2) ⟨by dsimp only;omega, by show 6 ≤ 620;decide, by dsimp only;omega⟩ rfl ⟨.inr rfl, trivial⟩
 ·have h9 := hsz (cT bs p (ys.length : Int)).toNat
  refine aO rfl ?_
  exact bY (q, p + 1 + 1) ⟨by dsimp only;omega, by dsimp only;omega, by dsimp only;omega⟩ rfl ⟨.inr rfl, trivial⟩
theorem n8 {bs:List UInt8}{N:Nat}{Q:Exit → AS → Prop}{all:Array Oper}{rest:List Oper}{tsl:List (Nat × AV)}{hsl:List (Nat × Option (List AV))}{nidl:Nat}{z0:Lo}{md:Md}{d:Nat}{ty:TypeId}{pos:String}{af:Array Edge}{tys:Array TypeId}{x0:Operand}(ha0:ev (lk tsl) x0 = some (sl cU bs)) (hmc:MC Tryz.prog 46 [sl cU bs] [] 0 (fun _:Unit => True) (fun _ => .optr 0 0) (fun _ => [(0,some (fE (bs.take 2000) 0))])) (hM:Nat.ble (nidl + 1) dJ = true) (hN:Nat.blt d N = true){md':Md}[hmd:MdA md (hO [x0] ++ []) (List.map Sum.inr (List.map Prod.fst ([(nidl,some (fE (bs.take 2000) 0))]:List (Nat × Option (List AV)))) ++ [.inl d]) md'] (kk:RW Tryz.prog N all Q md' rest ⟨(d,.optr nidl 0) :: tsl,iY hsl [(nidl,some (fE (bs.take 2000) 0))],nidl + 1,z0⟩):RW Tryz.prog N all Q md (⟨some d,.call ⟨.value (.func 46),#[x0],tys⟩,ty,pos,af,none⟩ :: rest) ⟨tsl,hsl,nidl,z0⟩ := by
 refine cL [] 1 [(nidl, some (fE (bs.take 2000) 0))] hmc (avs := [sl cU bs]) ?_ rfl ?_ rfl ?_ (by simpa using hM) ?_ ?_ ?_ hN (md' := md') (hmd := hmd) kk
 ·show evL (lk tsl) [x0] = _
  simp only [evL, ha0]
 ·exact trivial
 ·(repeat' (exact RnL.purI inferInstance))
 ·(repeat' (exact RnV.optr rfl))
 ·simp [dT]
 ·(repeat' (first|exact trivial|(refine And.intro ⟨0, _, rfl, rfl, ?_⟩ ?_)|exact RnL.purI inferInstance))
theorem qW (bs:List UInt8) (hb:bs.length ≤ 1048576):MC Tryz.prog 46 [sl cU bs] [] 0 (fun _:Unit => True) (fun _ => .optr 0 0) (fun _ => [(0,some (fE (bs.take 2000) 0))]) := Kr bs hb
theorem Ak (p:Prg) (L:List Iss) (hl:p.types.length ≤ 1000000) (hs:bO p.body ≤ 1000000) (hC:PC Tryz.prog 31 [dH p] (fun r => r = sl rV L)):PC Tryz.prog 19 [dH p] (fun r => r = bv (cP p && L.isEmpty)) := by
 (refine aT Tryz.func19 rfl (by simp [Tryz.ntmps19]) ?_; rw [Tryz.ntmps19])
 repeat' (first|(apply aK;first|((with_reducible apply aI (k := 31));(case ha => rfl);(case h => exact hC);(case hp => (exact Pur.pf));(case hN => rfl))|(apply aE;rfl;rfl)|(apply aU;rfl;rfl;(exact (rfl:_=[_, _]));rfl;rfl;rfl)|(first|(apply aY;rfl;rfl;rfl;(assumption))|(apply a6;rfl;rfl;rfl;(assumption))|(apply bE;(case hj|hb|hN => rfl);all_goals (intro hg;have hq := hg;(try simp only [cH] at hq);(try (exfalso;omega)))))|(apply aS;rfl;rfl;rfl;rfl)|(apply aC;rfl;rfl)|(first|(apply bK;rfl;(assumption);rfl;rfl)|(apply bC;rfl;(assumption);rfl;rfl))|((with_reducible apply aI (k := 49));(case ha => rfl);(case h => (apply k6 <;> (first|assumption|omega)));(case hp => (exact Pur.pf));(case hN => rfl))|(apply a8;rfl;rfl;rfl)|(apply aF;kernel_rfl)|(apply bT;rfl;rfl;rfl;rfl))|(apply aL;first|apply aH|apply aB|apply aP)|with_reducible apply aA)
 all_goals refine aO rfl ⟨?_, rfl⟩
 all_goals simp only [b8]
 ·rw [show cP p = true by assumption]
  cases L with
  | nil => rfl
  | cons a b => simp;omega
 ·rw [show cP p = false by assumption]; rfl
theorem Ci (p:Prg) (xs:List Int) (hl:p.types.length ≤ 1000000) (hs:bO p.body ≤ 1000000) (hx:xs.length ≤ 10):PC Tryz.prog 78 [dH p,sl cI xs] (fun r => r = if cP p = true ∧ (∀ j,j < xs.length → 0 ≤ xs[j]! ∧ xs[j]! < (bX p).length) then .tup [aG p.types p.body (bX p),bv true] else .tup [.v (.pointer none),bv false]) := by
 have hpl := kT p
 have hnl := j3 p.body
 (refine aT Tryz.func78 rfl (by simp [Tryz.ntmps78]) ?_; rw [Tryz.ntmps78])
 repeat' (first|(apply aK;first|(apply aE;rfl;rfl)|(apply aU;rfl;rfl;(exact (rfl:_=[_, _]));rfl;rfl;rfl)|(apply aC;rfl;rfl)|(first|((with_reducible apply aI (k := 49));(case ha => rfl);(case h => (apply k6 <;> (first|assumption|omega)));(case hp => (exact Pur.pf));(case hN => rfl))|((with_reducible apply aI (k := 96));(case ha => rfl);(case h => (apply A5 <;> (assumption)));(case hp => (exact Pur.pf));(case hN => rfl)))|(apply a8;rfl;rfl;rfl)|(apply aF;kernel_rfl)|(apply bW;rfl;(exact (rfl:_=some [_, _, _]));(exact (rfl:_=[_, _, _]));rfl)|(apply cF;rfl;rfl)|(apply bT;rfl;rfl;rfl;rfl))|(apply aL;first|apply aH|apply aB|(apply bZ;kernel_rfl)|(apply aN;rfl;all_goals intro hc;have hq:=hc;(try simp only [cH] at hq);try exfalso;omega)|apply aM|apply aR|apply aP)|with_reducible apply aA|with_reducible apply bH)
 ·refine aO rfl ⟨?_, (by (rfl))⟩
  rw [if_neg (by simp [hq])]; rfl
 ·refine bF (σ := Nat) [6, 17, 18] [(6, _), (17, _), (18, _)] [1] [(1, some _)] (fun k => [(19, iv (k : Int))]) (fun k => []) (fun k => k ≤ xs.length ∧ ∀ j, j < k → 0 ≤ xs[j]! ∧ xs[j]! < (bX p).length) (fun k => xs.length - k) (0) ⟨by omega, by omega⟩ rfl rfl (by repeat' (first | exact trivial | refine And.intro rfl ?_)) (by repeat' (exact trivial)) ?_
  rintro k ⟨hk, hall⟩
  repeat' (first|(apply aK;first|(apply aE;rfl;rfl)|(apply aJ;rfl;rfl;rfl;rfl)|(apply aD;rfl;rfl;rfl)|(first|(apply bR;rfl;rfl;omega;rfl)|(apply e6;rfl;rfl;omega;rfl)|(apply aS;rfl;rfl;rfl;rfl))|(apply aC;rfl;rfl)|(apply a7;(case hx|hi => rfl);(case hm => (omega));(case hml => (rfl));(case hα | hf|hg => infer_instance);(case hN => rfl))|((with_reducible apply aI (k := 50));(case ha => rfl);(case h => (apply eA <;> (fail)));(case hp => (rfl));(case hN => rfl))|(apply a8;rfl;rfl;rfl)|(apply aF;kernel_rfl)|(apply cF;rfl;rfl)|(apply bV;rfl;rfl;rfl))|(apply aL;first|apply aH|apply aB|(apply aN;rfl;all_goals intro hc;have hq:=hc;(try simp only [cH] at hq);try exfalso;omega)|apply aM|apply aR|apply bI|apply aP)|with_reducible apply aA|with_reducible apply bH|with_reducible apply bJ|with_reducible apply aW|with_reducible apply cX|with_reducible apply bG)
  ·refine aO rfl ⟨?_, (by (rfl))⟩
   rw [if_neg (fun h => by have := h.2 k (by omega);omega)]; rfl
  ·(apply dV (k + 1); focus (refine Le.ren [(1, 1)] rfl (by decide) ?_ ?_ <;> repeat' (first | exact trivial | refine And.intro ⟨_, rfl, ?_⟩ ?_ | refine And.intro ⟨_, _, rfl, rfl, ?_⟩ ?_ | exact Or.inr rfl | refine Or.inl ⟨?_, (by first | rfl | exact aZ _ _)⟩ | refine Or.inr (All2.cons ?_ ?_) | refine All2.cons ?_ ?_ | exact All2.nil | rfl)))
   ·exact ⟨by omega, fun j hj => by
     by_cases e : j = k
     ·subst e;omega
     ·exact hall j (by omega)⟩
   ·omega
  ·refine cE (Le.frzP (d := 4) (i := 1) rfl rfl) ?_
   refine aO rfl ⟨?_, (by show (AV.tup [aG p.types p.body (bX p), bv true]).pur = true;exact PurV.pf)⟩
   rw [if_pos ⟨by assumption, fun j hj => hall j (by omega)⟩]; rfl
def Mk (p : Prg) (i : Int) : Prop := cP p = true ∧ 0 ≤ i ∧ i < (bX p).length
theorem EO (p:Prg) (i:Int) (hl:p.types.length ≤ 1000000) (hs:bO p.body ≤ 1000000) (h:Mk p i):PC Tryz.prog 78 [dH p,.imm 1 [iv i]] (fun r => r = .tup [aG p.types p.body (bX p),bv true]) := by
 have := Ci p [i] hl hs (by simp)
 rw [if_pos ⟨h.1, fun j hj => by obtain rfl : j = 0 := by simpa using hj
                                 exact h.2⟩] at this
 exact this
theorem HL (xs:List Int) (hl:xs.length ≤ 1000000):PC Tryz.prog 103 [sl cI xs] (fun r => r = sl cI xs) := by
 (refine aT Tryz.func103 rfl (by simp [Tryz.ntmps103]) ?_; rw [Tryz.ntmps103])
 repeat' (first|(apply aK;first|(apply tH;rfl;rfl;(intro b hb))|(apply aE;rfl;rfl)|(apply aC;rfl;rfl)|(apply cJ;rfl;rfl;rfl;rfl;rfl;(case hl => (simp [aQ]; done));(exact yN (by (rfl)));omega;omega;(exact mH (by (omega)));rfl;rfl)|(apply aF;kernel_rfl)|(apply cD;rfl;rfl;rfl;(rfl);rfl;rfl))|(apply aL;first|apply aH|apply aB|(apply aN;rfl;all_goals intro hc;have hq:=hc;(try simp only [cH] at hq);try exfalso;omega)|apply aR|apply aP)|with_reducible apply aA|with_reducible apply bH)
 ·have h0 : xs = [] := List.eq_nil_of_length_eq_zero (hb (by assumption))
  subst h0
  (refine cE (Le.nilImm (d := 2) rfl) ?_; refine aO rfl ?_)
  exact ⟨rfl, rfl⟩
 ·(refine cE (Le.frzD (d := 2) (i := 1) rfl rfl) ?_; refine aO rfl ?_)
  refine ⟨?_, (by (exact aZ _ _))⟩
  simp only [b8, sl, Nat.zero_add]
theorem Gm (mm:Nat) (hmm:mm ≤ 1000000) (own_ih:∀ l,bO l < mm → PC Tryz.prog 71 [sl aX l] (fun r => r = sl aX l)) (l:List AL.Stmt) (hs:bO l ≤ mm):PC Tryz.prog 71 [sl aX l] (fun r => r = sl aX l) := by
 have hlen := dG l
 (refine aT Tryz.func71 rfl (by simp [Tryz.ntmps71]) ?_; rw [Tryz.ntmps71])
 repeat' (first|(apply aK;first|((apply gY (d := 3) (e := 6));(case hM|hN => rfl))|(apply aE;rfl;rfl)|(apply aC;rfl;rfl)|(apply a8;rfl;rfl;rfl)|(apply aF;kernel_rfl))|(apply aL;first|apply aH|apply aB|apply aM)|with_reducible apply aA)
 refine bF (σ := Nat × List AL.Stmt) [6, 7] [(6, _), (7, _)] [] [] (fun k => [(8, iv (k.1 : Int)), (3, .own 0 0 k.1 6)]) (fun k => [(0, some (flat aX k.2))]) (fun k => k.1 ≤ l.length ∧ k.2 = l.take k.1) (fun k => l.length - k.1) (0, []) ⟨by omega, rfl⟩ rfl rfl (by repeat' (first|exact trivial|refine And.intro rfl ?_)) (by repeat' (first|exact trivial|refine And.intro (.inr rfl) ?_)) ?_
 rintro ⟨k, xs⟩ ⟨hk, hxs⟩
 dsimp only at hk hxs ⊢
 have hck := gD l k
 have hct := iR l[k]!
 have hln : xs.length = k := by rw [hxs, List.length_take]; omega
 repeat' (first|(apply aK;first|(apply aE;rfl;rfl)|(first|(apply aJ;rfl;rfl;rfl;rfl)|(apply aU;rfl;rfl;(exact (rfl:_=[_, _, _, _, _, _]));rfl;rfl;rfl))|(apply aD;rfl;rfl;rfl)|(first|(apply bR;rfl;rfl;omega;rfl)|(apply aS;rfl;rfl;rfl;rfl))|(apply aC;rfl;rfl)|(apply a7;(case hx|hi => rfl);(case hm => (omega));(case hml => (rfl));(case hα | hf|hg => infer_instance);(case hN => rfl))|((with_reducible apply aI (k := 71));(case ha => rfl);(case h => (apply own_ih <;> (omega)));(case hp => (exact Pur.pf));(case hN => rfl))|(apply cJ;rfl;rfl;rfl;rfl;rfl;(rw [aQ]; omega);(rfl);omega;omega;(exact iQ (by (omega)));rfl;rfl)|(apply aF;kernel_rfl)|(apply bB;rfl;rfl)|((apply bS (t := _));(case hze|hsm|hl => rfl);(case hfl => (exact (rfl:_=some [_, _, _, _, _, _])));(case hM|hN => rfl))|(apply aV;rfl;rfl;rfl;rfl;rfl;(case hl => (simp;done));(exact (rfl:_=[_, _, _, _, _, _]))))|(apply aL;first|apply aH|apply aB|(apply bZ;kernel_rfl)|(apply aN;rfl;all_goals intro hc;have hq:=hc;(try simp only [cH] at hq);try exfalso;omega)|apply aM|apply aR|apply bI|apply aP)|with_reducible apply aA|with_reducible apply bJ|with_reducible apply aW|with_reducible apply bG)
 ·(apply dV (k + 1, _); focus (refine Le.ren [(0, 3)] rfl (by decide) ?_ ?_ <;> repeat' (first | exact trivial | refine And.intro ⟨_, rfl, ?_⟩ ?_ | refine And.intro ⟨_, _, rfl, rfl, ?_⟩ ?_ | exact Or.inr rfl | refine Or.inl ⟨?_, (by first | rfl | exact aZ _ _)⟩ | rfl)))
  ·exact ⟨by dsimp only;omega, by dsimp only;rw [hxs, dC l k (by omega)]⟩
  ·dsimp only;omega
 ·have hke : k = l.length := by omega
  (refine cE (Le.frzD (d := 2) (i := 0) rfl rfl) ?_; refine aO rfl ?_)
  refine ⟨?_, Pur.pf⟩
  rw [hxs, hke, List.take_length]; rfl
theorem Kl (l:List AL.Stmt) (hb:bO l ≤ 1000000):PC Tryz.prog 71 [sl aX l] (fun r => r = sl aX l) := by
 have key : ∀ m, m ≤ 1000000 → ∀ l, bO l ≤ m → PC Tryz.prog 71 [sl aX l] (fun r => r = sl aX l) := by
  intro m
  induction m with
  | zero => intro hm l hl;exact Gm 0 hm (fun l h => by omega) l hl
  | succ m ih => intro hm l hl;exact Gm (m + 1) hm (fun l h => ih (by omega) l (by omega)) l hl
 exact key (bO l) hb l (Nat.le_refl _)
theorem LQ (l:List AL.Stmt) (hs:bO l ≤ 1000000):MC Tryz.prog 71 [sl aX l] [] 0 (fun _:Unit => True) (fun _ => .own 0 0 l.length 6) (fun _ => [(0,some (flat aX l))]) := by
 have hlen := dG l
 (refine cC Tryz.func71 rfl (by simp [Tryz.ntmps71]) ?_; rw [Tryz.ntmps71])
 repeat' (first|(apply aK;first|((apply gY (d := 3) (e := 6));(case hM|hN => rfl))|(apply aE;rfl;rfl)|(apply aC;rfl;rfl)|(apply a8;rfl;rfl;rfl)|(apply aF;kernel_rfl))|(apply aL;first|apply aH|apply aB|apply aM)|with_reducible apply aA)
 refine bF (σ := Nat × List AL.Stmt) [6, 7] [(6, _), (7, _)] [] [] (fun k => [(8, iv (k.1 : Int)), (3, .own 0 0 k.1 6)]) (fun k => [(0, some (flat aX k.2))]) (fun k => k.1 ≤ l.length ∧ k.2 = l.take k.1) (fun k => l.length - k.1) (0, []) ⟨by omega, rfl⟩ rfl rfl (by repeat' (first|exact trivial|refine And.intro rfl ?_)) (by repeat' (first|exact trivial|refine And.intro (.inr rfl) ?_)) ?_
 rintro ⟨k, xs⟩ ⟨hk, hxs⟩
 dsimp only at hk hxs ⊢
 have hck := gD l k
 have hct := iR l[k]!
 have hln : xs.length = k := by rw [hxs, List.length_take]; omega
 have o1 := Kl l[k]!.th
 have o2 := Kl l[k]!.el
 repeat' (first|(apply aK;first|((with_reducible apply aI (k := 71));(case ha => rfl);(case h => exact (o1 (by omega)));(case hp => (exact Pur.pf));(case hN => rfl))|((with_reducible apply aI (k := 71));(case ha => rfl);(case h => exact (o2 (by omega)));(case hp => (exact Pur.pf));(case hN => rfl))|(apply aE;rfl;rfl)|(first|(apply aJ;rfl;rfl;rfl;rfl)|(apply aU;rfl;rfl;(exact (rfl:_=[_, _, _, _, _, _]));rfl;rfl;rfl))|(apply aD;rfl;rfl;rfl)|(first|(apply bR;rfl;rfl;omega;rfl)|(apply aS;rfl;rfl;rfl;rfl))|(apply aC;rfl;rfl)|(apply a7;(case hx|hi => rfl);(case hm => (omega));(case hml => (rfl));(case hα | hf|hg => infer_instance);(case hN => rfl))|(apply cJ;rfl;rfl;rfl;rfl;rfl;(rw [aQ]; omega);(rfl);omega;omega;(exact iQ (by (omega)));rfl;rfl)|(apply aF;kernel_rfl)|(apply bB;rfl;rfl)|((apply bS (t := _));(case hze|hsm|hl => rfl);(case hfl => (exact (rfl:_=some [_, _, _, _, _, _])));(case hM|hN => rfl))|(apply aV;rfl;rfl;rfl;rfl;rfl;(case hl => (simp;done));(exact (rfl:_=[_, _, _, _, _, _]))))|(apply aL;first|apply aH|apply aB|(apply bZ;kernel_rfl)|(apply aN;rfl;all_goals intro hc;have hq:=hc;(try simp only [cH] at hq);try exfalso;omega)|apply aM|apply aR|apply bI|apply aP)|with_reducible apply aA|with_reducible apply bJ|with_reducible apply aW|with_reducible apply bG)
 ·(apply dV (k + 1, _); focus (refine Le.ren [(0, 3)] rfl (by decide) ?_ ?_ <;> repeat' (first | exact trivial | refine And.intro ⟨_, rfl, ?_⟩ ?_ | refine And.intro ⟨_, _, rfl, rfl, ?_⟩ ?_ | exact Or.inr rfl | refine Or.inl ⟨?_, (by first | rfl | exact aZ _ _)⟩ | rfl)))
  ·exact ⟨by dsimp only;omega, by dsimp only;rw [hxs, dC l k (by omega)]⟩
  ·dsimp only;omega
 ·have hke : k = l.length := by omega
  have hxl : xs = l := by rw [hxs, hke, List.take_length]
  subst hke
  (refine aO rfl ?_; refine bY () trivial ?_ ⟨.inr (Eq.trans (b := some _) rfl ?_), trivial⟩)
  ·rfl
  ·rw [hxl]
theorem Jf {l:List AL.Stmt}{N:Nat}{Q:Exit → AS → Prop}{all:Array Oper}{rest:List Oper}{tsl:List (Nat × AV)}{hsl:List (Nat × Option (List AV))}{nidl:Nat}{z0:Lo}{md:Md}{d:Nat}{ty:TypeId}{pos:String}{af:Array Edge}{tys:Array TypeId}{x0:Operand}(ha0:ev (lk tsl) x0 = some (sl aX l)) (hmc:MC Tryz.prog 71 [sl aX l] [] 0 (fun _:Unit => True) (fun _ => .own 0 0 l.length 6) (fun _ => [(0,some (flat aX l))])) (hM:Nat.ble (nidl + 1) dJ = true) (hN:Nat.blt d N = true){md':Md}[hmd:MdA md (hO [x0] ++ []) (List.map Sum.inr (List.map Prod.fst ([(nidl,some (flat aX l))]:List (Nat × Option (List AV)))) ++ [.inl d]) md'] (kk:RW Tryz.prog N all Q md' rest ⟨(d,.own nidl 0 l.length 6) :: tsl,iY hsl [(nidl,some (flat aX l))],nidl + 1,z0⟩):RW Tryz.prog N all Q md (⟨some d,.call ⟨.value (.func 71),#[x0],tys⟩,ty,pos,af,none⟩ :: rest) ⟨tsl,hsl,nidl,z0⟩ := by
 refine cL [] 1 [(nidl, some (flat aX l))] hmc (avs := [sl aX l]) ?_ rfl ?_ rfl ?_ (by simpa using hM) ?_ ?_ ?_ hN (md' := md') (hmd := hmd) kk
 ·show evL (lk tsl) [x0] = _
  simp only [evL, ha0]
 ·exact trivial
 ·(repeat' (exact RnL.purI inferInstance))
 ·(repeat' (exact RnV.own rfl))
 ·simp [dT]
 ·(repeat' (first|exact trivial|(refine And.intro ⟨0, _, rfl, rfl, ?_⟩ ?_)|exact RnL.purI inferInstance))
theorem DG {q:Prg}{N:Nat}{Q:Exit → AS → Prop}{all:Array Oper}{rest:List Oper}{tsl:List (Nat × AV)}{hsl:List (Nat × Option (List AV))}{nidl:Nat}{z0:Lo}{md:Md}{d:Nat}{ty:TypeId}{pos:String}{af:Array Edge}{tys:Array TypeId}{x0:Operand}(ha0:ev (lk tsl) x0 = some (dH q)) (hmc:MC Tryz.prog 55 [dH q] [] 0 (fun _:Unit => True) (fun _ => .agg [sl cI q.types,.own 2 0 q.body.length 6]) (fun _ => [(2,some (flat aX q.body))])) (hM:Nat.ble (nidl + 3) dJ = true) (hN:Nat.blt d N = true){md':Md}[hmd:MdA md (hO [x0] ++ []) (List.map Sum.inr (List.map Prod.fst ([((nidl + 2),some (flat aX q.body))]:List (Nat × Option (List AV)))) ++ [.inl d]) md'] (kk:RW Tryz.prog N all Q md' rest ⟨(d,.agg [sl cI q.types,.own (nidl + 2) 0 q.body.length 6]) :: tsl,iY hsl [((nidl + 2),some (flat aX q.body))],nidl + 3,z0⟩):RW Tryz.prog N all Q md (⟨some d,.call ⟨.value (.func 55),#[x0],tys⟩,ty,pos,af,none⟩ :: rest) ⟨tsl,hsl,nidl,z0⟩ := by
 refine cL [] 3 [((nidl + 2), some (flat aX q.body))] hmc (avs := [dH q]) ?_ rfl ?_ rfl ?_ (by simpa using hM) ?_ ?_ ?_ hN (md' := md') (hmd := hmd) kk
 ·show evL (lk tsl) [x0] = _
  simp only [evL, ha0]
 ·exact trivial
 ·(repeat' (exact RnL.purI inferInstance))
 ·(repeat' (first|exact RnL.purI inferInstance|exact RnV.purI inferInstance|exact RnV.own rfl|refine RnL.cons ?_ ?_|refine RnV.agg ?_))
 ·simp [dT]
 ·(repeat' (first|exact trivial|(refine And.intro ⟨2, _, rfl, rfl, ?_⟩ ?_)|exact RnL.purI inferInstance))
theorem Hs (q:Prg) (hs:bO q.body ≤ 1000000) (ht:q.types.length ≤ 1000000):MC Tryz.prog 55 [dH q] [] 0 (fun _:Unit => True) (fun _ => .agg [sl cI q.types,.own 2 0 q.body.length 6]) (fun _ => [(2,some (flat aX q.body))]) := by
 have h1 := HL q.types ht
 (refine cC Tryz.func55 rfl (by simp [Tryz.ntmps55]) ?_; rw [Tryz.ntmps55])
 repeat' (first|(apply aK;first|((with_reducible apply aI (k := 103));(case ha => rfl);(case h => exact h1);(case hp => (exact Pur.pf));(case hN => rfl))|(apply Jf;rfl;(apply LQ;assumption);rfl;rfl)|(apply aJ;rfl;rfl;rfl;rfl)|(apply aD;rfl;rfl;rfl)|(apply aF;kernel_rfl)|(apply bW;rfl;(exact (rfl:_=some [_, _]));(exact (rfl:_=[_, _]));rfl)|(apply bT;rfl;rfl;rfl;rfl)|(apply bB;rfl;rfl)|(apply aV;rfl;rfl;rfl;rfl;rfl;(case hl => (simp;done));(exact (rfl:_=[_, _]))))|(apply aL;first|apply aH|apply aB|(apply bZ;kernel_rfl)|apply aP)|with_reducible apply aA)
 (refine aO rfl ?_; refine bY () trivial ?_ ⟨.inr (Eq.trans (b := some _) rfl ?_), trivial⟩)
 ·rfl
 ·rfl
theorem IN {xs:List AL.Stmt}{m k:Nat}{N:Nat}{Q:Exit → AS → Prop}{all:Array Oper}{rest:List Oper}{tsl:List (Nat × AV)}{hsl:List (Nat × Option (List AV))}{nidl:Nat}{z0:Lo}{md:Md}{d:Nat}{ty:TypeId}{pos:String}{af:Array Edge}{tys:Array TypeId}{x0 x1 x2:Operand}{i0:Nat}(ha0:ev (lk tsl) x0 = some (.own i0 0 m 6)) (ha1:ev (lk tsl) x1 = some (iv (k:Int))) (ha2:ev (lk tsl) x2 = some (iv ((k:Int) + 1))) (hH0:cA hsl i0 = some (flat aX xs)) (hmc:MC Tryz.prog 117 [.own 0 0 m 6,iv (k:Int),iv ((k:Int) + 1)] [(0,some (flat aX xs))] 1 (fun _:Unit => True) (fun _ => .own 0 0 (m - 1) 6) (fun _ => [(0,some (flat aX (gL k xs)))])) (hM:Nat.ble (nidl + 0) dJ = true) (hN:Nat.blt d N = true){md':Md}[hmd:MdA md (hO [x0,x1,x2] ++ [.inr i0]) (List.map Sum.inr (List.map Prod.fst ([(i0,some (flat aX (gL k xs)))]:List (Nat × Option (List AV)))) ++ [.inl d]) md'] (kk:RW Tryz.prog N all Q md' rest ⟨(d,.own i0 0 (m - 1) 6) :: tsl,iY hsl [(i0,some (flat aX (gL k xs)))],nidl + 0,z0⟩):RW Tryz.prog N all Q md (⟨some d,.call ⟨.value (.func 117),#[x0,x1,x2],tys⟩,ty,pos,af,none⟩ :: rest) ⟨tsl,hsl,nidl,z0⟩ := by
 refine cL [i0] 1 [(i0, some (flat aX (gL k xs)))] hmc (avs := [.own i0 0 m 6, iv (k : Int), iv ((k : Int) + 1)]) ?_ rfl ?_ rfl ?_ (by simpa using hM) ?_ ?_ ?_ hN (md' := md') (hmd := hmd) kk
 ·show evL (lk tsl) [x0, x1, x2] = _
  simp only [evL, ha0, ha1, ha2]
 ·exact ⟨⟨_, _, rfl, hH0, by (repeat' (exact RnL.purI inferInstance))⟩, trivial⟩
 ·(repeat' (first|exact RnL.purI inferInstance|exact RnV.own rfl|refine RnL.cons ?_ ?_))
 ·(repeat' (exact RnV.own rfl))
 ·simp [dT]
 ·(repeat' (first|exact trivial|(refine And.intro ⟨0, _, rfl, rfl, ?_⟩ ?_)|exact RnL.purI inferInstance))
theorem Kz (xs:List AL.Stmt) (m k:Nat) (hm:m = xs.length) (hk:k < m) (hl:m ≤ 1000000):MC Tryz.prog 117 [.own 0 0 m 6,iv (k:Int),iv ((k:Int) + 1)] [(0,some (flat aX xs))] 1 (fun _:Unit => True) (fun _ => .own 0 0 (m - 1) 6) (fun _ => [(0,some (flat aX (gL k xs)))]) := by
 subst hm
 (refine cC Tryz.func117 rfl (by simp [Tryz.ntmps117]) ?_; rw [Tryz.ntmps117])
 repeat' (first|(apply aK;first|((apply Fl (l := k) (h := k + 1) (k := xs.length));(case hx => rfl);(case hl => exact gP rfl (by omega));(case hh => exact gP rfl (by omega));(case hm => exact gP rfl (by omega));(case hc => omega);(case hN => rfl))|((apply Fw (d := 22) (h := k));(case hx => rfl);(case hh => exact gP rfl (by omega));(case hc => omega);(case h0 => omega);(case hN => rfl))|((apply gB (d := 25) (l := k + 1) (h := xs.length));(case hx|hn => rfl);(case hl => exact gP rfl (by omega));(case hh => rfl);(case hp => exact if_pos (by omega));(case hN => rfl))|((apply BL (d := 26));(case hx|hy|hH => rfl);(case hs' => exact sJ rfl rfl);(case hk => omega);(case hl => (rw [aQ aX (e := 6), aQ aX (e := 6), List.length_drop]; omega));(case hcs => exact Ir hk);(case hN => rfl))|(apply Kf;rfl;rfl)|((apply Cr (d := 31) (l := xs.length - 1) (h := xs.length));(case hx => rfl);(case hl => exact gP rfl (by omega));(case hh => exact gP rfl (by omega));(case hc => omega);(case hN => rfl))|(apply Bl;rfl;rfl;omega;rfl;(rw [List.length_append, aQ aX (e := 6), aQ aX (e := 6), List.length_drop]; have := m5 hk;omega);exact Ht hk (by omega) rfl)|(apply aE;rfl;rfl)|(apply aS;rfl;rfl;rfl;rfl)|(apply aC;rfl;rfl)|(apply a8;rfl;rfl;rfl)|(apply aF;kernel_rfl))|(apply aL;first|apply aH|apply aB|(apply bZ;kernel_rfl)|(apply aN;rfl;all_goals intro hc;have hq:=hc;(try simp only [cH] at hq);try exfalso;omega)|apply aR|apply aP)|with_reducible apply aA)
 refine cE (Le.noroom (d := 6) rfl) ?_
 refine cE (Le.cut (i := 0) ((xs.length - 1) * 6) rfl) ?_
 (refine aO rfl ?_; refine bY () trivial ?_ ⟨.inr (Eq.trans (b := some _) rfl ?_), trivial⟩)
 ·show AV.own 0 0 (k + (xs.length - (k + 1))) 6 = _
  rw [show k + (xs.length - (k + 1)) = xs.length - 1 by omega]
 ·rw [List.take_left' (by rw [aQ aX (e := 6)]; have := m5 hk;omega)]
theorem yI (q:Prg) (k:Nat) (hk:k ≤ q.body.length) (hs:bO q.body ≤ 1000000):PC Tryz.prog 54 [dH q,iv (k:Int)] (fun r => r = iv (dK (q.body.take k):Int)) := by
 have hlen := dG q.body
 have hc : bO (List.take ((k : Int).toNat - 0) (List.drop 0 q.body)) ≤ bO q.body := by
  have h := fI (q.body.take k) (q.body.drop k)
  rw [List.take_append_drop] at h
  rw [List.drop_zero, Nat.sub_zero, Int.toNat_natCast]; omega
 have hn := j3 (List.take ((k : Int).toNat - 0) (List.drop 0 q.body))
 (refine aT Tryz.func54 rfl (by simp [Tryz.ntmps54]) ?_; rw [Tryz.ntmps54])
 repeat' (first|(apply aK;first|(apply aE;rfl;rfl)|(apply aJ;rfl;rfl;rfl;rfl)|(apply aD;rfl;rfl;rfl)|(apply aC;rfl;rfl)|(apply o6;rfl;rfl;(apply rN <;> (omega));rfl;rfl)|(apply a8;rfl;rfl;rfl)|(apply aF;kernel_rfl)|(apply nK;rfl;infer_instance;rfl;rfl;(omega);rfl)|(apply bT;rfl;rfl;rfl;rfl))|(apply aL;first|apply aH|apply aB|apply aP)|with_reducible apply aA)
 refine aO rfl ⟨?_, rfl⟩
 simp only [b8, List.drop_zero, Nat.sub_zero, Int.toNat_natCast]
theorem Ez (q:Prg) (k:Nat) (hk:k < q.body.length) (hs:bO q.body ≤ 1000000) (ht:q.types.length ≤ 1000000):PC Tryz.prog 65 [dH q,iv (k:Int)] (fun r => r = dH (jV q k)) := by
 have hlen := dG q.body
 (refine aT Tryz.func65 rfl (by simp [Tryz.ntmps65]) ?_; rw [Tryz.ntmps65])
 repeat' (first|(apply aK;first|(apply DG;rfl;(apply Hs <;> omega);rfl;rfl)|(apply aE;rfl;rfl)|(first|(apply aJ;rfl;rfl;rfl;rfl)|(apply aU;rfl;rfl;(exact (rfl:_=[_, _]));rfl;rfl;rfl))|(apply aD;rfl;rfl;rfl)|(apply bR;rfl;rfl;omega;rfl)|(apply IN;rfl;rfl;rfl;(rfl);(apply Kz <;> (first|assumption|omega));rfl;rfl)|(apply aF;kernel_rfl)|(apply bT;rfl;rfl;rfl;rfl)|(apply bB;rfl;rfl)|(apply aV;rfl;rfl;rfl;rfl;rfl;(case hl => (simp;done));(exact (rfl:_=[_, _]))))|(apply aL;first|apply aH|apply aB|apply aP)|with_reducible apply aA)
 refine cE (Le.frzC (j := 1) (i := 4) [sl cI q.types] rfl rfl (by decide)) ?_
 have e : AV.agg [sl cI q.types, .imm (q.body.length - 1) (flat aX (gL k q.body))] = dH (jV q k) := by
  have := m5 hk
  unfold jV
  dsimp only [dH]
  unfold sl
  rw [show (gL k q.body).length = q.body.length - 1 by omega]
 rw [← e]
 exact aO (l := [AV.agg [sl cI q.types, .imm (q.body.length - 1) (flat aX (gL k q.body))]]) rfl ⟨rfl, by rw [e]; exact Pur.pf⟩
theorem u7 {stk:List Tg}{id:Int}(h:0 ≤ dM stk id):∀ k < (dM stk id).toNat,stk[k]!.id ≠ id := by
 unfold dM at h ⊢
 split
 ·rename_i k hk
  obtain ⟨h1, h2, h3⟩ := List.findIdx?_eq_some_iff_getElem.1 hk
  rw [Int.toNat_natCast]
  intro j hj he
  have := h3 j hj
  rw [cK _ _ (by omega)] at he
  simp [he] at this
 ·rename_i hk;rw [hk] at h;dsimp only at h;omega
theorem DQ {stk:List Tg}{id:Int}{i:Nat}(hi:i < stk.length) (h:stk[i]!.id = id) (hn:∀ k < i,stk[k]!.id ≠ id):dM stk id = (i:Int) := by
 have hb := g9 stk id
 by_cases hneg : dM stk id < 0
 ·have := qA.1 hneg stk[i]! (by rw [cK _ _ hi]; exact List.getElem_mem hi)
  exact absurd h this
 ·have ha := C9 (stk := stk) (id := id) (by omega)
  have hf := u7 (stk := stk) (id := id) (by omega)
  rcases Nat.lt_trichotomy (dM stk id).toNat i with h1|h1|h1
  ·exact absurd ha (hn _ h1)
  ·omega
  ·exact absurd h (hf _ h1)
theorem D0 (c:Cl):OkC c ↔ (0 ≤ c.val ∧ c.val ≤ 9) ∧ (1 ≤ c.next ∧ c.next ≤ 1000) ∧ (1 ≤ c.stk.length ∧ c.stk.length ≤ 200) ∧ c.stk[0]!.uq = true ∧ (∀ k < c.stk.length,0 ≤ c.stk[k]!.id ∧ c.stk[k]!.id < c.next ∧ dM c.stk c.stk[k]!.id = (k:Int)) := by
 constructor
 ·intro h
  refine ⟨h.v, h.n, h.l, h.u, fun k hk => ?_⟩
  have h1 := h.i c.stk[k]! (by rw [cK _ _ hk]; exact List.getElem_mem hk)
  refine ⟨h1.1, h1.2, DQ hk rfl (fun j hj he => ?_)⟩
  have hd := List.nodup_iff_pairwise_ne.1 h.d |> List.pairwise_iff_getElem.1
  have := hd j k (by rw [List.length_map]; omega) (by rw [List.length_map]; omega) hj
  simp only [List.getElem_map] at this
  rw [cK _ _ (by omega), cK _ _ hk] at he
  exact this he
 ·rintro ⟨h1, h2, h3, h4, h5⟩
  refine ⟨h1, h2, h3, h4, fun t ht => ?_, ?_⟩
  ·obtain ⟨k, hk, rfl⟩ := List.getElem_of_mem ht
   have := h5 k hk;rw [cK _ _ hk] at this
   exact ⟨this.1, this.2.1⟩
  ·rw [List.nodup_iff_pairwise_ne, List.pairwise_iff_getElem]
   intro i j hi hj hij he
   rw [List.length_map] at hi hj
   simp only [List.getElem_map] at he
   have a := (h5 i hi).2.2
   have b := (h5 j hj).2.2
   rw [cK _ _ hi] at a;rw [cK _ _ hj, ← he, a] at b
   omega
instance (c : Cl) : Decidable (OkC c) := decidable_of_iff _ (D0 c).symm
theorem jB (m:List Cl):OkM m ↔ m.length ≤ 200 ∧ ∀ k < m.length,OkC m[k]! := by
 constructor
 ·exact fun h => ⟨h.l, fun k hk => h.c _ (by rw [cK _ _ hk]; exact List.getElem_mem hk)⟩
 ·exact fun h => ⟨h.1, fun c hc => by obtain ⟨k, hk, rfl⟩ := List.getElem_of_mem hc;have := h.2 k hk;rwa [cK _ _ hk] at this⟩
instance (m : List Cl) : Decidable (OkM m) := decidable_of_iff _ (jB m).symm
theorem s8 (k:Int):PC Tryz.prog 156 [iv k] (fun r => r = iv (jI k)) := by
 (refine aT Tryz.func156 rfl (by simp [Tryz.ntmps156]) ?_; rw [Tryz.ntmps156])
 repeat' (first|(apply aK;first|(apply aE;rfl;rfl)|(apply aS;rfl;rfl;rfl;rfl)|(apply aC;rfl;rfl)|(apply aF;kernel_rfl))|(apply aL;first|apply aH|apply aB|(apply aN;rfl;all_goals intro hc;have hq:=hc;(try simp only [cH] at hq);try exfalso;omega)|apply aR|apply aP)|with_reducible apply aA|with_reducible apply bH|((with_reducible apply aO);case hr => rfl))
 all_goals (refine ⟨?_, rfl⟩; simp only [b8, AV.v.injEq, Value.bool.injEq, Value.int.injEq, true_and])
 all_goals grind [jI]
theorem G2 {xs:List Tg}{m:Nat}{a:Int}{b:Bool}(hm:m = xs.length):((flat eO xs).drop 0).take (m * 2) ++ [iv a,bv b] = flat eO (xs ++ [⟨a,b⟩]) := iH hm rfl
theorem ED {α}{p:α → Bool}{a:α}(h:p a = true):[a].filter p = [a] := by simp [h]
theorem xI {α}{p:α → Bool}{a:α}(h:p a = false):[a].filter p = [] := by simp [h]
theorem L0 {m:List Cl}{x:Pt}{wr:Bool}(h:x.cell < 0 ∨ (m.length:Int) ≤ x.cell):cS m x wr = 4 := by
 unfold cS;rw [if_pos (by omega)]
theorem Lh {m:List Cl}{x:Pt}{wr:Bool}(h:0 ≤ x.cell) (h2:x.cell < m.length) (h3:m[x.cell.toNat]!.alive = false):cS m x wr = 1 := by
 unfold cS;rw [if_neg (by omega), if_pos h3]
theorem LD {m:List Cl}{x:Pt}{wr:Bool}(h:0 ≤ x.cell) (h2:x.cell < m.length) (h3:m[x.cell.toNat]!.alive = true) (h4:dM m[x.cell.toNat]!.stk x.tag < 0):cS m x wr = 2 := by
 unfold cS;rw [if_neg (by omega), if_neg (by rw [h3]; decide), if_pos h4]
theorem DV {m:List Cl}{x:Pt}(h:0 ≤ x.cell) (h2:x.cell < m.length) (h3:m[x.cell.toNat]!.alive = true) (h4:0 ≤ dM m[x.cell.toNat]!.stk x.tag):cS m x false = 0 := by
 unfold cS;rw [if_neg (by omega), if_neg (by rw [h3]; decide), if_neg (by omega), if_neg (by intro q;exact absurd q.1 (by decide))]
theorem Il {m:List Cl}{x:Pt}:cS m x true = if cS m x false = 0 then (if m[x.cell.toNat]!.stk[(dM m[x.cell.toNat]!.stk x.tag).toNat]!.uq = false then 3 else 0) else cS m x false := by
 unfold cS
 split
 ·rw [if_neg (by decide)]
 ·split
  ·rw [if_neg (by decide)]
  ·split
   ·rw [if_neg (by decide)]
   ·rw [if_neg (c := false = true ∧ _) (by intro q; exact absurd q.1 (by decide)), if_pos rfl]
    simp only [true_and]
theorem jD {m:List Cl}{x:Pt}{wr:Bool}(h:cS m x wr = 0):0 ≤ x.cell ∧ x.cell < m.length ∧ m[x.cell.toNat]!.alive = true ∧ 0 ≤ dM m[x.cell.toNat]!.stk x.tag ∧ (wr = true → m[x.cell.toNat]!.stk[(dM m[x.cell.toNat]!.stk x.tag).toNat]!.uq = true) := by
 unfold cS at h
 split at h
 ·omega
 ·split at h
  ·omega
  ·split at h
   ·omega
   ·split at h
    ·omega
    ·rename_i a b c d
     refine ⟨by omega, by omega, by simpa using b, by omega, fun hw => ?_⟩
     by_cases q : m[x.cell.toNat]!.stk[(dM m[x.cell.toNat]!.stk x.tag).toNat]!.uq = false
     ·exact absurd ⟨hw, q⟩ d
     ·simpa using q
theorem Ks {xs:List Cl}{k:Nat}{s:List Tg}(hk:k < xs.length):hZ (flat eF xs) (0 + k * 4 + 3) [sl eO s] = flat eF (xs.set k { xs[k]! with stk := s }) := gF hk (by simp) rfl
theorem mS {α:Type}{f:α → List AV}{xs:List α}{n:Nat}(h:n = xs.length):AV.imm n (flat f xs) = sl f xs := by subst h; rfl
theorem mV {m:List Cl}{x:Pt}{wr:Bool}:(gG m x wr).length = m.length := by
 unfold gG;split
 ·rw [List.length_set]
 ·rfl
theorem set_set {α:Type}{l:List α}{i:Nat}{a b:α}:(l.set i a).set i b = l.set i b := by simp
theorem sY {α:Type}[Inhabited α] {l:List α}{i:Nat}{a:α}(h:i < l.length):(l.set i a)[i]! = a := by rw [cK _ _ (by rw [List.length_set]; exact h),List.getElem_set_self]
def uU (m : List Cl) (j : Nat) (r : List Tg) : Prop := r.length = 200 ∨ m[j]!.next = 1000
instance (m : List Cl) (j : Nat) (r : List Tg) : Decidable (uU m j r) := by unfold uU; infer_instance
def pS (m b : List Cl) (j : Nat) (u : Bool) (r : List Tg) : List Cl := if uU m j r then b else m.set j (psh { m[j]! with stk := r } u)
def rZ (m : List Cl) (j : Nat) (r : List Tg) : Pt := if uU m j r then ⟨0, 0⟩ else ⟨j, m[j]!.next⟩
def o9 (m : List Cl) (j : Nat) (r : List Tg) : Int := if uU m j r then 4 else 0
theorem nW {m:List Cl}{x:Pt}{u:Bool}{r:List Tg}(hk:cS m x u = 0) (hr:r = g7 m[x.cell.toNat]!.stk (dM m[x.cell.toNat]!.stk x.tag).toNat u):rX m x u = o9 m x.cell.toNat r ∧ nX m x u = pS m m x.cell.toNat u r ∧ BT m x u = rZ m x.cell.toNat r := by
 obtain ⟨h1, h2, _⟩ := jD hk
 subst hr
 have e : rX m x u = o9 m x.cell.toNat (g7 m[x.cell.toNat]!.stk (dM m[x.cell.toNat]!.stk x.tag).toNat u) := by
  unfold rX;rw [if_pos hk]; rfl
 refine ⟨e, ?_, ?_⟩
 ·unfold nX pS
  rw [e]; unfold o9
  split
  ·rw [if_neg (by decide)]
  ·rw [if_pos rfl]; rfl
 ·unfold BT rZ
  rw [e]; unfold o9
  split
  ·rw [if_neg (by decide)]
  ·rw [if_pos rfl, Int.toNat_of_nonneg h1]
theorem MH {m:List Cl}{x:Pt}{u:Bool}(hk:cS m x u ≠ 0):rX m x u = cS m x u ∧ nX m x u = m ∧ BT m x u = ⟨0,0⟩ := by
 have e : rX m x u = cS m x u := by unfold rX;rw [if_neg hk]
 exact ⟨e, by unfold nX;rw [if_neg (by rw [e]; exact hk)], by unfold BT;rw [if_neg (by rw [e]; exact hk)]⟩
theorem Dw {xs:List Sl}{k:Nat}{a:Bool}{b c d:Int}(hk:k < xs.length):hZ (flat e5 xs) (0 + k * 4) [bv a,iv b,iv c,iv d] = flat e5 (xs.set k ⟨a,b,⟨c,d⟩⟩) := k8 hk rfl
theorem Hh {ts:List Int}{n v:Nat}{q:Mc}(h:¬ (ts[v]! = 2 ∧ q.slots[v]!.set = true)):dU ts (n + 1) v q = dU ts n (v + 1) q := by
 rw [dU, if_neg h]
theorem L4 {ts:List Int}{n v:Nat}{q:Mc}(h:ts[v]! = 2 ∧ q.slots[v]!.set = true) (hk:cS q.cells q.slots[v]!.ptr true = 0):dU ts (n + 1) v q = dU ts n (v + 1) ⟨q.slots.set v jZ,jG q.cells q.slots[v]!.ptr,q.read⟩ := by
 rw [dU, if_pos h, if_pos hk]
theorem Lj {ts:List Int}{n v:Nat}{q:Mc}(h:ts[v]! = 2 ∧ q.slots[v]!.set = true) (hk:¬ cS q.cells q.slots[v]!.ptr true = 0):dU ts (n + 1) v q = (⟨q.slots,jG q.cells q.slots[v]!.ptr,q.read⟩,jI (cS q.cells q.slots[v]!.ptr true)) := by
 rw [dU, if_pos h, if_neg hk]
def wm (pts : List Pnt) (n a : Nat) (cs : List Int) : List Int × Bool := ((eR pts n a cs).1.map (fun a : Nat => (a : Int)), (eR pts n a cs).2)
theorem LY {pts:List Pnt}{n a:Nat}{cs:List Int}(h:pts[a]!.op = 11):wm pts n a cs = ([(a:Int)],true) := by
 have e : eR pts n a cs = ([a], true) := by cases n <;> (unfold eR;rw [if_pos h])
 unfold wm;rw [e]; rfl
theorem Li {pts:List Pnt}{a:Nat}{cs:List Int}(h:¬ pts[a]!.op = 11):wm pts 0 a cs = ([],false) := by
 have e : eR pts 0 a cs = ([], false) := by unfold eR;rw [if_neg h]
 unfold wm;rw [e]; rfl
theorem ME {pts:List Pnt}{n a:Nat}{cs:List Int}(h:¬ pts[a]!.op = 11):wm pts (n + 1) a cs = ((a:Int) :: (wm pts n (eE pts a cs).1 (eE pts a cs).2).1,(wm pts n (eE pts a cs).1 (eE pts a cs).2).2) := by
 unfold wm;rw [eR, if_neg h]; rfl
theorem MW {pts:List Pnt}{a:Nat}{cs:List Int}(h:¬ pts[a]!.next.length = 2):eE pts a cs = ((pts[a]!.next[0]!).toNat,cs) := by
 unfold eE;rw [if_neg h]
theorem Ji {pts:List Pnt}{n a:Nat}{out cs cs2:List Int}{b:Nat}{q:List Int × Bool}(h:¬ pts[a]!.op = 11) (ho:out.length < n) (hs:eE pts a cs = (b,cs2)) (hq:q = (out ++ (wm pts (n - out.length) a cs).1,(wm pts (n - out.length) a cs).2)) :
  q = ((out ++ [(a : Int)]) ++ (wm pts (n - (out ++ [(a : Int)]).length) b cs2).1, (wm pts (n - (out ++ [(a : Int)]).length) b cs2).2) := by
 rw [hq, show n - out.length = (n - (out.length + 1)) + 1 by omega, ME h, hs, List.length_append, List.append_assoc]
 rfl
theorem fT {ts:List Int}{s:Mc}{v:Nat}{y:Sl}:(dN ts s v y).1.read = s.read := by unfold dN; split <;> rfl
theorem Gt {ts:List Int}{s:Mc}{x:Pnt}(h:x.op ≠ 11):(dF ts s x).1.read.length ≤ s.read.length + 1 := by
 unfold dF
 split
 ·rw [fT]; omega
 split
 ·split
  ·dsimp only;omega
  ·rw [fT]; dsimp only;omega
 split
 ·rw [fT]; split <;> (first|omega|(dsimp only;omega))
 split
 ·split
  ·rw [fT]; dsimp only;omega
  ·dsimp only;omega
 split
 ·split
  ·rw [fT]; dsimp only;rw [List.length_append]; simp only [List.length_singleton]; omega
  ·dsimp only;omega
 split
 ·dsimp only;omega
 split
 ·dsimp only;omega
 dsimp only;omega
theorem Hz {ts:List Int}{pts:List Pnt}(w:WG ts pts) (A:WA ts pts):∀ n a cs,a < pts.length → ∀ x ∈ (eR pts n a cs).1,x < pts.length
 | 0, a, cs, ha, x, hx => by
  unfold eR at hx
  by_cases e : pts[a]!.op = 11
  ·rw [if_pos e] at hx;rw [List.mem_singleton.1 hx]; exact ha
  ·rw [if_neg e] at hx;exact absurd hx (by simp)
 | n + 1, a, cs, ha, x, hx => by
  rw [eR] at hx
  by_cases e : pts[a]!.op = 11
  ·rw [if_pos e] at hx;rw [List.mem_singleton.1 hx]; exact ha
  ·rw [if_neg e] at hx
   rcases List.mem_cons.1 hx with h|h
   ·rw [h]; exact ha
   ·have he := iL w A ha e cs
    have := w.nx a ha _ he.2
    exact Hz w A n _ _ (by omega) x h
theorem zU {pts:List Pnt}:∀ n a cs,(eR pts n a cs).1.length ≤ n + 1
 | 0, a, cs => by unfold eR;split <;> simp
 | n + 1, a, cs => by
  rw [eR]; split
  ·simp
  ·have := zU (pts := pts) n (eE pts a cs).1 (eE pts a cs).2
   dsimp only;rw [List.length_cons]; omega
def LX (p : Prg) (most : Int) : Bool := cP p && (decide (0 ≤ most) && decide (most ≤ 150))
theorem Lq {p:Prg}{cs:List Int}{n:Nat}(hv:cP p = true):OkS p.types.length (dI p.types (bX p) cs n).1 := by
 have wa := WA.of_valid hv
 have hp : ∀ a : Nat, PtN (bX p)[a]! := fun a => by
  by_cases h : a < (bX p).length
  ·exact ⟨fun e => (wa.a a h).n (.inr e)⟩
  ·refine ⟨fun e => ?_⟩
   rw [Gw, dif_neg h] at e
   exact absurd e (by decide)
 exact OkS.run hp _ _ _ (OkS.mc0 _)
theorem Bb {ts:List Int}{s:Mc}{x:Pnt}:(dF ts s x).1.read.length ≤ s.read.length + 1 := by
 by_cases h : x.op = 11
 ·rw [rK h, mL]; omega
 ·exact Gt h
theorem w9 (ts:List Int) (pts:List Pnt):∀ (l:List Nat) (s:Mc) (last:Nat),(gI ts pts l s last).1.read.length ≤ s.read.length + l.length
 | [], s, last => by unfold gI;simp
 | a :: l, s, last => by
  have h := Bb (ts := ts) (s := s) (x := pts[a]!)
  unfold gI;split
  ·dsimp only;omega
  ·split
   ·have := w9 ts pts l (dF ts s pts[a]!).1 a
    rw [List.length_cons]; omega
   ·rw [List.length_cons]; dsimp only;omega
theorem Cz {ts:List Int}{pts:List Pnt}{cs:List Int}{n:Nat}(hn:n ≤ 150):(dI ts pts cs n).1.read.length ≤ 151 := by
 have h := w9 ts pts (eR pts n 0 cs).1 (mc0 ts.length) 0
 have h2 := zU (pts := pts) n 0 cs
 have h3 : (mc0 ts.length).read.length = 0 := rfl
 unfold dI;omega
theorem Mz:Go.Proofs.Tryz.prog.underlying 223 = some (.map 3 4) := by kernel_rfl
theorem Mu:Go.Proofs.Tryz.prog.underlying 3 = some (.int .i64) := by kernel_rfl
theorem MS:(Go.Proofs.Tryz.prog.info? 4).bind (·.zero) = some (.bool false) := by kernel_rfl
theorem Mf {a b c:Int}(h:a ≤ b ∧ b ≤ c):(!(decide (a ≤ b) && decide (b ≤ c))) = false := by simp [h.1,h.2]
theorem iF (m:List Cl) (hm:OkM m):PC Tryz.prog 187 [sl eF m] (fun r => r = bv true) := by
 have hml := hm.l
 (refine aT Tryz.func187 rfl (by simp [Tryz.ntmps187]) ?_; rw [Tryz.ntmps187])
 repeat' (first|(apply aK;first|(apply aE;rfl;rfl)|(apply aS;rfl;rfl;rfl;rfl)|(apply aC;rfl;rfl)|(apply a8;rfl;rfl;rfl)|(apply aF;kernel_rfl))|(apply aL;first|apply aH|apply aB|(apply aN;rfl;all_goals intro hc;have hq:=hc;(try simp only [cH] at hq);try exfalso;omega)|apply aM|apply aR)|with_reducible apply aA)
 all_goals (try (exfalso;omega))
 refine bF (σ := Nat) [11, 12] [(11, _), (12, _)] [] [] (fun i => [(13, iv (i : Int))]) (fun i => []) (fun i => i ≤ m.length) (fun i => m.length - i) (0) (Nat.zero_le _) rfl rfl (by repeat' (first|exact trivial|refine And.intro rfl ?_)) (by repeat' (exact trivial)) ?_
 rintro i hi
 by_cases hin : i < m.length
 ·have hc := (jB m).1 hm |>.2 i hin
  obtain ⟨h1, h2, h3, h4, h5⟩ := (D0 _).1 hc
  repeat' (first|(apply aK;first|(apply aE;rfl;rfl)|(first|(apply aJ;rfl;rfl;rfl;rfl)|(apply aU;rfl;rfl;(exact (rfl:_=[_, _, _, _]));rfl;rfl;rfl))|(apply aD;rfl;rfl;rfl)|(first|(apply aY;rfl;rfl;rfl;(assumption))|(apply bE;(case hj|hb|hN => rfl);all_goals (intro hg;have hq := hg;(try simp only [cH] at hq);(try (exfalso;omega)))))|(apply aS;rfl;rfl;rfl;rfl)|(apply aC;rfl;rfl)|(apply bC;rfl;(assumption);rfl;rfl)|(first|(apply a7;(case hx|hi => rfl);(case hm => (assumption));(case hml => (rfl));(case hα | hf|hg => infer_instance);(case hN => rfl))|(apply cO;(case hx|hi => rfl);(case hm => (omega));(case hml => (rfl));(case hα | hf|hg => infer_instance);(case hN => rfl)))|((with_reducible apply aI (k := 50));(case ha => rfl);(case h => (apply eA <;> (fail)));(case hp => (rfl));(case hN => rfl))|(apply a8;rfl;rfl;rfl)|(apply aF;kernel_rfl)|(apply cF;rfl;rfl)|(apply bB;rfl;rfl)|(apply aV;rfl;rfl;rfl;rfl;rfl;(case hl => (simp;done));(exact (rfl:_=[_, _, _, _]))))|(apply aL;first|with_reducible apply HN|apply aH|apply aB|(apply aN;rfl;all_goals intro hc;have hq:=hc;(try simp only [cH] at hq);try exfalso;omega)|apply aM|apply aR|apply aP)|with_reducible apply aA|with_reducible apply bH|with_reducible apply cX)
  ·exfalso
   have hu : m[i]!.stk[Int.toNat 0]!.uq = false := by assumption
   rw [show Int.toNat 0 = 0 from rfl, h4] at hu;exact absurd hu (by decide)
  ·refine Kt (HZ rfl (fun r => ?_))
   refine Bx ?_
   repeat' (apply aK;first|(apply aC;rfl;rfl)|(apply aF;kernel_rfl))
   refine ⟨rfl, rfl, ?_⟩
   refine lP (pN ?_)
   repeat' (first|(apply aK;first|(apply aE;rfl;rfl)|(apply aJ;rfl;rfl;rfl;rfl)|(apply aD;rfl;rfl;rfl)|(apply a8;rfl;rfl;rfl)|(apply aF;kernel_rfl))|(apply aL;(apply aB)))
   show sF _ _ _ _ _ _ _
   refine xH ?_
   refine EA (σ := Nat) [4, 5, 11, 12, 13, 44, 45] [(4, _), (5, _), (11, _), (12, _), (13, _), (44, _), (45, _)] [0] [(0, some _)] (fun k => [(46, iv (k : Int))]) (fun k => []) (fun k => (m[i]!.stk.take k).map (·.id)) (fun k => k ≤ m[i]!.stk.length) (fun k => m[i]!.stk.length - k) (0) (Nat.zero_le _) (rfl) rfl rfl (by repeat' (first|exact trivial|refine And.intro rfl ?_)) (by repeat' (exact trivial)) ?_
   rintro k hk
   refine lP (pN ?_)
   repeat' (first|(apply aK;first|(apply aS;rfl;rfl;rfl;rfl)|(apply aF;kernel_rfl))|(apply aL;(apply aB)))
   show sF _ _ _ _ _ _ _
   refine lP (A2 rfl (fun hb => BS ?_) (fun hb => Ic ?_))
   ·show sF _ _ _ _ _ _ _
    have hkl : k < m[i]!.stk.length := by have := of_decide_eq_true hb;omega
    obtain ⟨g1, g2, g3⟩ := h5 k hkl
    have hw := Mf (a := 0) (b := m[i]!.stk[k]!.id) (c := m[i]!.next - 1) ⟨g1, by omega⟩
    have hni : m[i]!.stk[k]!.id ∉ (m[i]!.stk.take k).map (·.id) := fun q => by
     obtain ⟨t, ht, e⟩ := List.mem_map.1 q
     obtain ⟨j, hj, rfl⟩ := List.getElem_of_mem ht
     rw [List.length_take] at hj
     have f := u7 (stk := m[i]!.stk) (id := m[i]!.stk[k]!.id) (by omega) j (by omega)
     rw [cK _ _ (by omega)] at f
     rw [List.getElem_take] at e
     exact f e
    refine lP (xH (lP (pN ?_)))
    repeat' (first|(apply aK;first|(apply aU;rfl;rfl;(exact (rfl:_=[_, _]));rfl;rfl;rfl)|(apply a7;(case hx|hi => rfl);(case hm => (assumption));(case hml => (rfl));(case hα | hf|hg => infer_instance);(case hN => rfl))|(apply aF;kernel_rfl)|(apply bB;rfl;rfl)|(apply aV;rfl;rfl;rfl;rfl;rfl;(case hl => (simp;done));(exact (rfl:_=[_, _]))))|(apply aL;(apply aB)))
    show sF _ _ _ _ _ _ _
    refine lP (lP (uD ?_))
    refine A7 (l1 := [_, _, _, _, _, _, _, _, _, _, _]) (l2 := [_, _]) ?_
    repeat' (apply aK;first|(apply aE;rfl;rfl)|(apply aJ;rfl;rfl;rfl;rfl)|(apply aD;rfl;rfl;rfl)|(apply aY;rfl;rfl;rfl;(assumption))|(apply e6;rfl;rfl;omega;rfl)|((with_reducible apply aI (k := 50));(case ha => rfl);(case h => (apply eA <;> (fail)));(case hp => (rfl));(case hN => rfl))|(apply aF;kernel_rfl)|(apply cF;rfl;rfl))
    refine ⟨rfl, ?_⟩
    refine ET rfl rfl hw ?_
    refine Cp Mz Mu MS rfl rfl hni rfl ?_
    refine Bx ?_
    repeat' (apply aK;first|(apply bC;rfl;(assumption);rfl;rfl)|(apply aF;kernel_rfl))
    refine ⟨rfl, ?_⟩
    show sF _ _ _ _ _ _ _
    refine A2 rfl (fun h => by cases h) (fun _ => BS ?_)
    show sF _ _ _ _ _ _ _
    refine uD ?_
    refine A7 (l1 := [_, _, _]) (l2 := [_]) ?_
    repeat' (apply aK;first|(apply aE;rfl;rfl)|(apply aJ;rfl;rfl;rfl;rfl)|(apply aD;rfl;rfl;rfl)|(apply aF;kernel_rfl))
    refine ⟨rfl, ?_⟩
    refine B4 Mz Mu MS rfl rfl hni ?_
    refine IB ?_
    show sF _ _ _ _ _ _ _
    refine pN ?_
    repeat' (first|(apply aK;first|(apply aE;rfl;rfl)|(apply bR;rfl;rfl;omega;rfl)|(apply aF;kernel_rfl))|(apply aL;(apply aB)))
    refine ⟨k + 1, by omega, by omega, ?_, ?_⟩
    ·refine Le.ren [(0, 0)] rfl (by decide) ?_ ?_ <;> repeat' (first|exact trivial|refine And.intro ⟨_, rfl, ?_⟩ ?_|refine And.intro ⟨_, _, rfl, rfl, ?_⟩ ?_|exact Or.inr rfl|refine Or.inl ⟨?_, (by first|rfl|exact aZ _ _|exact Pur.pf)⟩|rfl)
    ·rw [dC _ k hkl, List.map_append]; rfl
   ·have hkl : k = m[i]!.stk.length := by have := of_decide_eq_false hb; omega
    refine H2 ?_
    show B1 1 _ _ _
    repeat' (first|(apply aK;first|(apply aE;rfl;rfl)|(apply bR;rfl;rfl;omega;rfl)|(apply aF;kernel_rfl))|(apply aL;(apply aB))|with_reducible apply aA|with_reducible apply aW)
    (apply dV (i + 1);focus (refine Le.ren [] rfl (by decide) ?_ ?_ <;> repeat' (first|exact trivial|refine And.intro ⟨_, rfl, ?_⟩ ?_|refine Or.inl ⟨?_, (by first|rfl|exact aZ _ _)⟩|rfl)))
    ·omega
    ·omega
 ·repeat' (first | (apply aK; first | (apply aS;rfl;rfl;rfl;rfl) | (apply aC;rfl;rfl) | (apply aF;kernel_rfl)) | (apply aL; first | apply aH | apply aB | (apply aN;rfl;all_goals intro hc;have hq:=hc;(try simp only [cH] at hq);try exfalso;omega) | apply bI | apply aP) | with_reducible apply aA | with_reducible apply bJ | with_reducible apply bG)
  refine aO rfl ⟨rfl, rfl⟩
theorem Le.bump {ts:List (Nat × AV)}{hs:List (Nat × Option (List AV))}{n:Nat}{z0:Lo}(k:Nat):Le ⟨ts,hs,n,z0⟩ ⟨ts,hs,n + k,z0⟩ := Le.of (fun _ _ h => h) (fun _ _ h => h) (Nat.le_add_right _ _) rfl
theorem wN {m:List Cl}{N:Nat}{Q:Exit → AS → Prop}{all:Array Oper}{rest:List Oper}{tsl:List (Nat × AV)}{hsl:List (Nat × Option (List AV))}{nidl:Nat}{z0:Lo}{md:Md}{d:Nat}{ty:TypeId}{pos:String}{af:Array Edge}{tys:Array TypeId}{x0:Operand}(ha0:ev (lk tsl) x0 = some (sl eF m)) (hmc:MC Tryz.prog 208 [sl eF m] [] 0 (fun _:Unit => True) (fun _ => .own 1 0 m.length 4) (fun _ => [(1,some (flat eF m))])) (hM:Nat.ble (nidl + 2) dJ = true) (hN:Nat.blt d N = true){md':Md}[hmd:MdA md (hO [x0] ++ []) (List.map Sum.inr (List.map Prod.fst ([((nidl + 1),some (flat eF m))]:List (Nat × Option (List AV)))) ++ [.inl d]) md'] (kk:RW Tryz.prog N all Q md' rest ⟨(d,.own (nidl + 1) 0 m.length 4) :: tsl,iY hsl [((nidl + 1),some (flat eF m))],nidl + 2,z0⟩):RW Tryz.prog N all Q md (⟨some d,.call ⟨.value (.func 208),#[x0],tys⟩,ty,pos,af,none⟩ :: rest) ⟨tsl,hsl,nidl,z0⟩ := by
 refine cL [] 2 [((nidl + 1), some (flat eF m))] hmc (avs := [sl eF m]) ?_ rfl ?_ rfl ?_ (by simpa using hM) ?_ ?_ ?_ hN (md' := md') (hmd := hmd) kk
 ·show evL (lk tsl) [x0] = _
  simp only [evL, ha0]
 ·exact trivial
 ·(repeat' (exact RnL.purI inferInstance))
 ·(repeat' (exact RnV.own rfl))
 ·simp [dT]
 ·(repeat' (first|exact trivial|(refine And.intro ⟨1, _, rfl, rfl, ?_⟩ ?_)|exact RnL.purI inferInstance))
theorem Bp (m:List Cl) (hl:m.length ≤ 1000000):MC Tryz.prog 208 [sl eF m] [] 0 (fun _:Unit => True) (fun _ => .own 1 0 m.length 4) (fun _ => [(1,some (flat eF m))]) := by
 (refine cC Tryz.func208 rfl (by simp [Tryz.ntmps208]) ?_; rw [Tryz.ntmps208])
 repeat' (first|(apply aK;first|(apply tH;rfl;rfl;(intro b hb))|(apply aE;rfl;rfl)|(apply aC;rfl;rfl)|(apply cJ;rfl;rfl;rfl;rfl;rfl;(case hl => (simp [aQ]; done));(exact yN (by (rfl)));omega;omega;(exact mH (by (omega)));rfl;rfl)|(apply aF;kernel_rfl)|(apply cD;rfl;rfl;rfl;(rfl);rfl;rfl))|(apply aL;first|apply aH|apply aB|(apply aN;rfl;all_goals intro hc;have hq:=hc;(try simp only [cH] at hq);try exfalso;omega)|apply aR|apply aP)|with_reducible apply aA|with_reducible apply bH)
 ·have h0 : m = [] := List.eq_nil_of_length_eq_zero (hb (by assumption))
  subst h0
  refine cE (Le.bump 1) ?_
  refine cE (Le.nilOwn (d := 2) 4 rfl (by decide)) ?_
  (refine aO rfl ?_; refine bY () trivial ?_ ⟨.inr (Eq.trans (b := some _) rfl ?_), trivial⟩)
  ·rfl
  ·rfl
 ·(refine aO rfl ?_; refine bY () trivial ?_ ⟨.inr (Eq.trans (b := some _) rfl ?_), trivial⟩)
  ·show AV.own 1 0 (0 + m.length) 4 = _; rw [Nat.zero_add]
  ·rfl
theorem qH {m:List Tg}{N:Nat}{Q:Exit → AS → Prop}{all:Array Oper}{rest:List Oper}{tsl:List (Nat × AV)}{hsl:List (Nat × Option (List AV))}{nidl:Nat}{z0:Lo}{md:Md}{d:Nat}{ty:TypeId}{pos:String}{af:Array Edge}{tys:Array TypeId}{x0:Operand}(ha0:ev (lk tsl) x0 = some (sl eO m)) (hmc:MC Tryz.prog 209 [sl eO m] [] 0 (fun _:Unit => True) (fun _ => .own 1 0 m.length 2) (fun _ => [(1,some (flat eO m))])) (hM:Nat.ble (nidl + 2) dJ = true) (hN:Nat.blt d N = true){md':Md}[hmd:MdA md (hO [x0] ++ []) (List.map Sum.inr (List.map Prod.fst ([((nidl + 1),some (flat eO m))]:List (Nat × Option (List AV)))) ++ [.inl d]) md'] (kk:RW Tryz.prog N all Q md' rest ⟨(d,.own (nidl + 1) 0 m.length 2) :: tsl,iY hsl [((nidl + 1),some (flat eO m))],nidl + 2,z0⟩):RW Tryz.prog N all Q md (⟨some d,.call ⟨.value (.func 209),#[x0],tys⟩,ty,pos,af,none⟩ :: rest) ⟨tsl,hsl,nidl,z0⟩ := by
 refine cL [] 2 [((nidl + 1), some (flat eO m))] hmc (avs := [sl eO m]) ?_ rfl ?_ rfl ?_ (by simpa using hM) ?_ ?_ ?_ hN (md' := md') (hmd := hmd) kk
 ·show evL (lk tsl) [x0] = _
  simp only [evL, ha0]
 ·exact trivial
 ·(repeat' (exact RnL.purI inferInstance))
 ·(repeat' (exact RnV.own rfl))
 ·simp [dT]
 ·(repeat' (first|exact trivial|(refine And.intro ⟨1, _, rfl, rfl, ?_⟩ ?_)|exact RnL.purI inferInstance))
theorem Ab (m:List Tg) (hl:m.length ≤ 1000000):MC Tryz.prog 209 [sl eO m] [] 0 (fun _:Unit => True) (fun _ => .own 1 0 m.length 2) (fun _ => [(1,some (flat eO m))]) := by
 (refine cC Tryz.func209 rfl (by simp [Tryz.ntmps209]) ?_; rw [Tryz.ntmps209])
 repeat' (first|(apply aK;first|(apply tH;rfl;rfl;(intro b hb))|(apply aE;rfl;rfl)|(apply aC;rfl;rfl)|(apply cJ;rfl;rfl;rfl;rfl;rfl;(case hl => (simp [aQ]; done));(exact yN (by (rfl)));omega;omega;(exact mH (by (omega)));rfl;rfl)|(apply aF;kernel_rfl)|(apply cD;rfl;rfl;rfl;(rfl);rfl;rfl))|(apply aL;first|apply aH|apply aB|(apply aN;rfl;all_goals intro hc;have hq:=hc;(try simp only [cH] at hq);try exfalso;omega)|apply aR|apply aP)|with_reducible apply aA|with_reducible apply bH)
 ·have h0 : m = [] := List.eq_nil_of_length_eq_zero (hb (by assumption))
  subst h0
  refine cE (Le.bump 1) ?_
  refine cE (Le.nilOwn (d := 2) 2 rfl (by decide)) ?_
  (refine aO rfl ?_; refine bY () trivial ?_ ⟨.inr (Eq.trans (b := some _) rfl ?_), trivial⟩)
  ·rfl
  ·rfl
 ·(refine aO rfl ?_; refine bY () trivial ?_ ⟨.inr (Eq.trans (b := some _) rfl ?_), trivial⟩)
  ·show AV.own 1 0 (0 + m.length) 2 = _; rw [Nat.zero_add]
  ·rfl
theorem Hk (t:Tg) (c g:Int):PC Tryz.prog 211 [Nc t,.iptr [iv c,iv g]] (fun r => r = bv (decide (t.id = g))) := by
 (refine aT Tryz.func211 rfl (by simp [Tryz.ntmps211]) ?_; rw [Tryz.ntmps211])
 repeat' (first|(apply aK;first|(apply aJ;rfl;rfl;rfl;rfl)|(apply aD;rfl;rfl;rfl)|(apply aS;rfl;rfl;rfl;rfl)|(apply aC;rfl;rfl)|(apply aF;kernel_rfl)|(apply bT;rfl;rfl;rfl;rfl))|(apply aL;first|apply aH|apply aB|apply aP)|with_reducible apply aA)
 exact aO rfl ⟨rfl, rfl⟩
theorem zZ (t:Tg):PC Tryz.prog 213 [Nc t] (fun r => r = bv t.uq) := by
 (refine aT Tryz.func213 rfl (by simp [Tryz.ntmps213]) ?_; rw [Tryz.ntmps213])
 repeat' (first|(apply aK;first|(apply aJ;rfl;rfl;rfl;rfl)|(apply aD;rfl;rfl;rfl)|(apply aC;rfl;rfl)|(apply aF;kernel_rfl)|(apply bT;rfl;rfl;rfl;rfl))|(apply aL;first|apply aH|apply aB|apply aP)|with_reducible apply aA)
 exact aO rfl ⟨rfl, rfl⟩
theorem yR (stk:List Tg) (c g:Int) (hl:stk.length ≤ 1000000):PC Tryz.prog 210 [sl eO stk,.clos (.func 211) [] [.iptr [iv c,iv g]]] (fun r => r = iv (dM stk g)) := by
 (refine aT Tryz.func210 rfl (by simp [Tryz.ntmps210]) ?_; rw [Tryz.ntmps210])
 repeat' (first|(apply aK;first|(apply aE;rfl;rfl)|(apply aC;rfl;rfl)|(apply a8;rfl;rfl;rfl)|(apply aF;kernel_rfl))|(apply aL;first|apply aH|apply aB|apply aM)|with_reducible apply aA)
 refine bF (σ := Nat) [0, 1, 7] [(0, _), (1, _), (7, _)] [] [] (fun k => [(8, iv (k : Int))]) (fun k => []) (fun k => k ≤ stk.length ∧ ∀ j, j < k → stk[j]!.id ≠ g) (fun k => stk.length - k) (0) ⟨by omega, by omega⟩ rfl rfl (by repeat' (first|exact trivial|refine And.intro rfl ?_)) (by repeat' (exact trivial)) ?_
 rintro k ⟨hk, hall⟩
 by_cases hkn : k < stk.length
 ·have hcl := Hk stk[k]! c g
  repeat' (first|(apply aK;first|(apply aE;rfl;rfl)|(apply aU;rfl;rfl;(exact (rfl:_=[_, _]));rfl;rfl;rfl)|(first|(apply bR;rfl;rfl;omega;rfl)|(apply aS;rfl;rfl;rfl;rfl))|(apply aC;rfl;rfl)|(apply a7;(case hx|hi => rfl);(case hm => (assumption));(case hml => (rfl));(case hα | hf|hg => infer_instance);(case hN => rfl))|((with_reducible apply iP);(case hx|hcl => rfl);(case hc => infer_instance);(case ha => rfl);(case h => (apply hcl <;> (fail)));(case hp => (rfl));(case hN => rfl))|(apply aF;kernel_rfl))|(apply aL;first|apply aH|apply aB|(apply aN;rfl;all_goals intro hc;have hq:=hc;(try simp only [cH] at hq);try exfalso;omega)|apply aM|apply aR|apply aP)|with_reducible apply aA|with_reducible apply bH|with_reducible apply aW|with_reducible apply cX)
  ·refine aO rfl ⟨?_, rfl⟩
   simp only [b8]; rw [DQ hkn (by assumption) hall]
  ·(apply dV (k + 1); focus (refine Le.ren [] rfl (by decide) ?_ ?_ <;> repeat' (first | exact trivial | refine And.intro ⟨_, rfl, ?_⟩ ?_ | refine Or.inl ⟨?_, (by first | rfl | exact aZ _ _)⟩ | rfl)))
   ·refine ⟨by omega, fun j hj => ?_⟩
    by_cases e : j = k
    ·subst e;assumption
    ·exact hall j (by omega)
   ·omega
 ·repeat' (first | (apply aK; first | (apply aS;rfl;rfl;rfl;rfl) | (apply aC;rfl;rfl) | (apply aF;kernel_rfl)) | (apply aL; first | apply aH | apply aB | (apply aN;rfl;all_goals intro hc;have hq:=hc;(try simp only [cH] at hq);try exfalso;omega) | apply bI | apply aP) | with_reducible apply aA | with_reducible apply bJ | with_reducible apply bG)
  refine aO rfl ⟨?_, rfl⟩
  have h2 : dM stk g < 0 := qA.2 (fun t ht => by obtain ⟨j, hj, rfl⟩ := List.getElem_of_mem ht;have := hall j (by omega);rwa [cK _ _ hj] at this)
  have hb := g9 stk g
  simp only [b8]; rw [show dM stk g = -1 by omega]
def rY (xs : List Tg) : Int := match xs.findIdx? (fun t => t.uq) with | some i => i | none => -1
theorem JI (stk:List Tg) (hl:stk.length ≤ 1000000):PC Tryz.prog 210 [sl eO stk,.v (.func (.func 213) #[] #[])] (fun r => r = iv (rY stk)) := by
 (refine aT Tryz.func210 rfl (by simp [Tryz.ntmps210]) ?_; rw [Tryz.ntmps210])
 repeat' (first|(apply aK;first|(apply aE;rfl;rfl)|(apply aC;rfl;rfl)|(apply a8;rfl;rfl;rfl)|(apply aF;kernel_rfl))|(apply aL;first|apply aH|apply aB|apply aM)|with_reducible apply aA)
 refine bF (σ := Nat) [0, 1, 7] [(0, _), (1, _), (7, _)] [] [] (fun k => [(8, iv (k : Int))]) (fun k => []) (fun k => k ≤ stk.length ∧ ∀ j, j < k → stk[j]!.uq = false) (fun k => stk.length - k) (0) ⟨by omega, by omega⟩ rfl rfl (by repeat' (first|exact trivial|refine And.intro rfl ?_)) (by repeat' (exact trivial)) ?_
 rintro k ⟨hk, hall⟩
 by_cases hkn : k < stk.length
 ·have hcl := zZ stk[k]!
  repeat' (first|(apply aK;first|(apply aE;rfl;rfl)|(apply aU;rfl;rfl;(exact (rfl:_=[_, _]));rfl;rfl;rfl)|(first|(apply bR;rfl;rfl;omega;rfl)|(apply aS;rfl;rfl;rfl;rfl))|(apply aC;rfl;rfl)|(apply a7;(case hx|hi => rfl);(case hm => (assumption));(case hml => (rfl));(case hα | hf|hg => infer_instance);(case hN => rfl))|((with_reducible apply iP);(case hx|hcl => rfl);(case hc => infer_instance);(case ha => rfl);(case h => (apply hcl <;> (fail)));(case hp => (rfl));(case hN => rfl))|(apply aF;kernel_rfl))|(apply aL;first|apply aH|apply aB|(apply aN;rfl;all_goals intro hc;have hq:=hc;(try simp only [cH] at hq);try exfalso;omega)|apply aM|apply aR|apply aP)|with_reducible apply aA|with_reducible apply bH|with_reducible apply aW|with_reducible apply cX)
  ·refine aO rfl ⟨?_, rfl⟩
   have hu : stk[k]!.uq = true := by assumption
   have : stk.findIdx? (fun t => t.uq) = some k := by
    rw [List.findIdx?_eq_some_iff_getElem]
    refine ⟨hkn, by rw [← cK stk k hkn]; exact hu, fun j hj => ?_⟩
    have := hall j hj;rw [cK stk j (by omega)] at this;rw [this]; decide
   simp only [b8, rY, this]
  ·have hu : stk[k]!.uq = false := by assumption
   (apply dV (k + 1);focus (refine Le.ren [] rfl (by decide) ?_ ?_ <;> repeat' (first|exact trivial|refine And.intro ⟨_, rfl, ?_⟩ ?_|refine Or.inl ⟨?_, (by first|rfl|exact aZ _ _)⟩|rfl)))
   ·refine ⟨by omega, fun j hj => ?_⟩
    by_cases e : j = k
    ·subst e;exact hu
    ·exact hall j (by omega)
   ·omega
 ·repeat' (first | (apply aK; first | (apply aS;rfl;rfl;rfl;rfl) | (apply aC;rfl;rfl) | (apply aF;kernel_rfl)) | (apply aL; first | apply aH | apply aB | (apply aN;rfl;all_goals intro hc;have hq:=hc;(try simp only [cH] at hq);try exfalso;omega) | apply bI | apply aP) | with_reducible apply aA | with_reducible apply bJ | with_reducible apply bG)
  refine aO rfl ⟨?_, rfl⟩
  have : stk.findIdx? (fun t => t.uq) = none := by
   rw [List.findIdx?_eq_none_iff]
   intro x hx
   obtain ⟨j, hj, rfl⟩ := List.getElem_of_mem hx
   have := hall j (by omega);rw [cK stk j hj] at this;exact this
  simp only [b8, rY, this]
theorem MG {xs:List Tg}{k:Nat}{a:Int}{b:Bool}(hk:k < xs.length):hZ (flat eO xs) (0 + k * 2) [iv a,bv b] = flat eO (xs.set k ⟨a,b⟩) := k8 hk rfl
theorem G6 {cs new:List AV}{k:Nat}(h:k ≤ cs.length):(hZ cs (0 + k) new).take k = cs.take k := by
 unfold hZ
 rw [Nat.zero_add, List.append_assoc, List.take_left' (by rw [List.length_take]; omega)]
def shr (xs : List Tg) : List Tg := xs.filter (fun t => !t.uq)
theorem Fk {xs:List Tg}(h:rY xs = -1):shr xs = xs := by
 unfold rY at h
 split at h
 ·omega
 ·rename_i hn
  rw [List.findIdx?_eq_none_iff] at hn
  unfold shr
  rw [List.filter_eq_self]
  intro t ht
  have := hn t ht
  simp [this]
theorem Fm {xs:List Tg}{i:Nat}(h:rY xs = (i:Int)):i < xs.length ∧ xs[i]!.uq = true ∧ shr (xs.take (i + 1)) = xs.take i := by
 unfold rY at h
 split at h
 ·rename_i k hk
  obtain ⟨h1, h2, h3⟩ := List.findIdx?_eq_some_iff_getElem.1 hk
  have e : k = i := by omega
  subst e
  have hs : shr (xs.take k) = xs.take k := by
   unfold shr
   rw [List.filter_eq_self]
   intro t ht
   obtain ⟨j, hj, rfl⟩ := List.getElem_of_mem ht
   rw [List.length_take] at hj
   have := h3 j (by omega)
   rw [List.getElem_take]; simpa using this
  refine ⟨h1, by rw [cK _ _ h1]; exact h2, ?_⟩
  rw [dC xs k h1]
  unfold shr at hs ⊢
  rw [List.filter_append, hs, xI (by rw [cK _ _ h1, h2]; rfl), List.append_nil]
 ·omega
theorem JM (xs:List Tg):-1 ≤ rY xs ∧ rY xs < xs.length := by
 unfold rY
 split
 ·rename_i k hk
  obtain ⟨h1, _⟩ := List.findIdx?_eq_some_iff_getElem.1 hk
  omega
 ·omega
theorem Jq {xs:List Tg}{j:Nat}(hj:j < xs.length) (h:xs[j]!.uq = false):shr (xs.take (j + 1)) = shr (xs.take j) ++ [xs[j]!] := by
 rw [dC xs j hj]; unfold shr
 rw [List.filter_append, ED (by rw [h]; rfl)]
theorem Gz {xs:List Tg}{j:Nat}(hj:j < xs.length) (h:xs[j]!.uq = true):shr (xs.take (j + 1)) = shr (xs.take j) := by
 rw [dC xs j hj]; unfold shr
 rw [List.filter_append, xI (by rw [h]; rfl), List.append_nil]
theorem HX {α:Type}[Inhabited α] {L:List α}{i:Nat}{x:α}(h:i < L.length):(L.set i x).take (i + 1) = L.take i ++ [x] := by
 rw [List.set_eq_take_append_cons_drop, if_pos h]
 have h1 : (L.take i).length = i := by rw [List.length_take]; omega
 rw [List.take_append, h1, show i + 1 - i = 1 by omega, List.take_of_length_le (by omega)]
 rfl
theorem Hw {α:Type}[Inhabited α] {L M:List α}{j:Nat}(h:L.drop j = M.drop j) (hl:L.length = M.length) (hj:j < M.length):L[j]! = M[j]! := by
 rw [cK _ _ (by omega), cK _ _ hj]
 rw [List.drop_eq_getElem_cons (by omega : j < L.length), List.drop_eq_getElem_cons hj] at h
 exact (List.cons.inj h).1
theorem uW {α:Type}{L M:List α}{j:Nat}(h:L.drop j = M.drop j):L.drop (j + 1) = M.drop (j + 1) := by
 rw [← List.drop_drop, h, List.drop_drop]
theorem I5 {xs:List Tg}{m:Nat}{N:Nat}{Q:Exit → AS → Prop}{all:Array Oper}{rest:List Oper}{tsl:List (Nat × AV)}{hsl:List (Nat × Option (List AV))}{nidl:Nat}{z0:Lo}{md:Md}{d:Nat}{ty:TypeId}{pos:String}{af:Array Edge}{tys:Array TypeId}{x0 x1:Operand}{i0:Nat}(ha0:ev (lk tsl) x0 = some (.own i0 0 m 2)) (ha1:ev (lk tsl) x1 = some (.v (.func (.func 213) #[] #[]))) (hH0:cA hsl i0 = some (flat eO xs)) (hmc:MC Tryz.prog 212 [.own 0 0 m 2,.v (.func (.func 213) #[] #[])] [(0,some (flat eO xs))] 1 (fun _:Unit => True) (fun _ => .own 0 0 (shr xs).length 2) (fun _ => [(0,some (flat eO (shr xs)))])) (hM:Nat.ble (nidl + 0) dJ = true) (hN:Nat.blt d N = true){md':Md}[hmd:MdA md (hO [x0,x1] ++ [.inr i0]) (List.map Sum.inr (List.map Prod.fst ([(i0,some (flat eO (shr xs)))]:List (Nat × Option (List AV)))) ++ [.inl d]) md'] (kk:RW Tryz.prog N all Q md' rest ⟨(d,.own i0 0 (shr xs).length 2) :: tsl,iY hsl [(i0,some (flat eO (shr xs)))],nidl + 0,z0⟩):RW Tryz.prog N all Q md (⟨some d,.call ⟨.value (.func 212),#[x0,x1],tys⟩,ty,pos,af,none⟩ :: rest) ⟨tsl,hsl,nidl,z0⟩ := by
 refine cL [i0] 1 [(i0, some (flat eO (shr xs)))] hmc (avs := [.own i0 0 m 2, .v (.func (.func 213) #[] #[])]) ?_ rfl ?_ rfl ?_ (by simpa using hM) ?_ ?_ ?_ hN (md' := md') (hmd := hmd) kk
 ·show evL (lk tsl) [x0, x1] = _
  simp only [evL, ha0, ha1]
 ·exact ⟨⟨_, _, rfl, hH0, by (repeat' (exact RnL.purI inferInstance))⟩, trivial⟩
 ·(repeat' (first|exact RnL.purI inferInstance|exact RnV.own rfl|refine RnL.cons ?_ ?_))
 ·(repeat' (exact RnV.own rfl))
 ·simp [dT]
 ·(repeat' (first|exact trivial|(refine And.intro ⟨0, _, rfl, rfl, ?_⟩ ?_)|exact RnL.purI inferInstance))
theorem KS (xs:List Tg) (m:Nat) (hm:m = xs.length) (hl:m ≤ 1000000):MC Tryz.prog 212 [.own 0 0 m 2,.v (.func (.func 213) #[] #[])] [(0,some (flat eO xs))] 1 (fun _:Unit => True) (fun _ => .own 0 0 (shr xs).length 2) (fun _ => [(0,some (flat eO (shr xs)))]) := by
 subst hm
 have hix := JI xs hl
 have hbd := JM xs
 by_cases hn : rY xs = -1
 ·rw [hn] at hix
  have hs := Fk hn
  (refine cC Tryz.func212 rfl (by simp [Tryz.ntmps212]) ?_; rw [Tryz.ntmps212])
  repeat' (first|(apply aK;first|((with_reducible apply oS (k := 210));(case ha => rfl);(case hl => (repeat' (first|exact nL|apply lN|exact xU|exact nB rfl inferInstance)));(case h => exact hix);(case hfr|hN => rfl);(case hmd => infer_instance))|(apply aE;rfl;rfl)|(apply aS;rfl;rfl;rfl;rfl)|(apply aC;rfl;rfl)|(apply aF;kernel_rfl))|(apply aL;first|apply aH|apply aB|(apply bU;rfl;(rfl))|apply aP)|with_reducible apply aA|with_reducible apply bH)
  all_goals (
   (refine aO rfl ?_; refine bY () trivial ?_ ⟨.inr (Eq.trans (b := some _) rfl ?_), trivial⟩)
   ·rw [hs]; rfl
   ·rw [hs])
 ·obtain ⟨i0, hi0⟩ := Int.eq_ofNat_of_zero_le (show 0 ≤ rY xs by omega)
  obtain ⟨g1, g2, g3⟩ := Fm hi0
  rw [hi0] at hix
  (refine cC Tryz.func212 rfl (by simp [Tryz.ntmps212]) ?_; rw [Tryz.ntmps212])
  repeat' (first|(apply aK;first|((with_reducible apply oS (k := 210));(case ha => rfl);(case hl => (repeat' (first|exact nL|apply lN|exact xU|exact nB rfl inferInstance)));(case h => exact hix);(case hfr|hN => rfl);(case hmd => infer_instance))|(apply aE;rfl;rfl)|(first|(apply bR;rfl;rfl;omega;rfl)|(apply aS;rfl;rfl;rfl;rfl))|(apply aC;rfl;rfl)|(apply aF;kernel_rfl))|(apply aL;first|apply aH|apply aB|(apply cG;rfl;(rfl))|apply aM|apply aR)|with_reducible apply aA)
  all_goals (try (exfalso;omega))
  refine bF (σ := List Tg × Nat × Nat) [0, 1] [(0, _), (1, _)] [] [] (fun s => [(5, iv (s.2.1 : Int)), (6, iv (s.2.2 : Int))]) (fun s => [(0, some (flat eO s.1))]) (fun s => s.1.length = xs.length ∧ s.1.take s.2.1 = shr (xs.take s.2.2) ∧ s.1.drop s.2.2 = xs.drop s.2.2 ∧ s.2.1 < s.2.2 ∧ s.2.2 ≤ xs.length) (fun s => xs.length - s.2.2) (xs, i0, i0 + 1) ⟨rfl, g3.symm, rfl, by dsimp only;omega, by dsimp only;omega⟩ rfl rfl (by repeat' (first|exact trivial|refine And.intro rfl ?_)) (by repeat' (first|exact trivial|refine And.intro (.inr rfl) ?_)) ?_
  rintro ⟨L, i, j⟩ ⟨hL, ht, hd, hij, hj⟩
  dsimp only at hL ht hd hij hj ⊢
  by_cases hjn : j < xs.length
  ·have hcl := zZ L[j]!
   have hg := Hw hd hL hjn
   repeat' (first|(apply aK;first|(apply aE;rfl;rfl)|(first|(apply iA;(case hx|hH => rfl);(case hf|hg|hα => infer_instance);(case hk => omega);(case h0|hN => rfl))|(apply aU;rfl;rfl;(exact (rfl:_=[_, _]));rfl;rfl;rfl))|(first|(apply bR;rfl;rfl;omega;rfl)|(apply aS;rfl;rfl;rfl;rfl))|(apply aC;rfl;rfl)|(apply cM;rfl;rfl;(first|assumption|omega);rfl)|(apply a8;rfl;rfl;rfl)|((with_reducible apply iP);(case hx|hcl => rfl);(case hc => infer_instance);(case ha => rfl);(case h => (apply hcl <;> (fail)));(case hp => (rfl));(case hN => rfl))|(apply aF;kernel_rfl)|(apply cF;rfl;rfl)|(apply bB;rfl;rfl)|(apply aV;rfl;rfl;rfl;rfl;rfl;(case hl => (first|(rw [aQ]; simp only [gN] <;> omega)|(simp;done)));(first|exact MG (by (first|assumption|omega))|exact (rfl:_=[_, _]))))|(apply aL;first|apply aH|apply aB|(apply aN;rfl;all_goals intro hc;have hq:=hc;(try simp only [cH] at hq);try exfalso;omega)|apply aM|apply aR)|with_reducible apply aA|with_reducible apply aW)
   ·have hu : L[j]!.uq = false := by assumption
    (apply dV (_, i + 1, j + 1);focus (refine Le.ren [] rfl (by decide) ?_ ?_ <;> repeat' (first|exact trivial|refine And.intro ⟨_, rfl, ?_⟩ ?_|refine And.intro ⟨_, _, rfl, rfl, ?_⟩ ?_|exact Or.inr rfl|refine Or.inl ⟨?_, (by first|rfl|exact aZ _ _)⟩|rfl)))
    ·refine ⟨by dsimp only; rw [List.length_set]; exact hL, ?_, ?_, by dsimp only; omega, by dsimp only; omega⟩
     ·dsimp only
      rw [HX (by omega), ht, Jq hjn (by rw [← hg]; exact hu), hg]
     ·dsimp only
      rw [List.drop_set_of_lt (by omega)]
      exact uW hd
    ·dsimp only;omega
   ·have hu : L[j]!.uq = true := by assumption
    (apply dV (L, i, j + 1);focus (refine Le.ren [] rfl (by decide) ?_ ?_ <;> repeat' (first|exact trivial|refine And.intro ⟨_, rfl, ?_⟩ ?_|refine And.intro ⟨_, _, rfl, rfl, ?_⟩ ?_|exact Or.inr rfl|refine Or.inl ⟨?_, (by first|rfl|exact aZ _ _)⟩|rfl)))
    ·refine ⟨hL, ?_, uW hd, by dsimp only; omega, by dsimp only; omega⟩
     dsimp only
     rw [ht, Gz hjn (by rw [← hg]; exact hu)]
    ·dsimp only;omega
  ·have hfl : (flat eO L).length = L.length * 2 := aQ eO L
   repeat' (first|(apply aK;first|((apply gB (d := 38) (l := i) (h := xs.length));(case hx|hn => rfl);(case hl => exact gP rfl (by omega));(case hh => rfl);(case hp => exact if_pos (by omega));(case hN => rfl))|((apply gB (d := 41) (l := 0) (h := i));(case hx|hn|hl => rfl);(case hh => exact gP rfl (by omega));(case hp => exact if_pos (by omega));(case hN => rfl))|(apply Bl;rfl;rfl;omega;rfl;(rw [hfl]; omega);rfl)|(apply aE;rfl;rfl)|(apply aS;rfl;rfl;rfl;rfl)|(apply aC;rfl;rfl)|(apply a8;rfl;rfl;rfl)|(apply aF;kernel_rfl))|(apply aL;first|apply aH|apply aB|(apply aN;rfl;all_goals intro hc;have hq:=hc;(try simp only [cH] at hq);try exfalso;omega)|apply bI|apply aP)|with_reducible apply aA|with_reducible apply bJ|with_reducible apply bG)
   refine cE (Le.cut (i := 0) (i * 2) rfl) ?_
   have hje : j = xs.length := by omega
   have hLt : L.take i = shr xs := by rw [ht, hje, List.take_length]
   have hil : (shr xs).length = i := by rw [← hLt, List.length_take]; omega
   (refine aO rfl ?_; refine bY () trivial ?_ ⟨.inr (Eq.trans (b := some _) rfl ?_), trivial⟩)
   ·show AV.own 0 (0 + 0 * 2) (i - 0) 2 = _
    rw [hil]; rfl
   ·rw [G6 (by omega), eV eO (e := 2), hLt]
end Go.Proofs.YtjcpngimjdckmaaGreat
