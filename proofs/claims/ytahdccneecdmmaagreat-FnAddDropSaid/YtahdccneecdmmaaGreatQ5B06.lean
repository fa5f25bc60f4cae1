/-
 A part of the proofs over this program: rules and contracts of its functions (the contracts).
-/
import Derived.Test.YtahdccneecdmmaaGreatQ5B05
import Derived.Test.YtahdccneecdmmaaGreatRows
import Derived.WalkKit
import Derived.ProofKit
import Derived.OpenShut
import Derived.Carry
import Derived.ChangeSlices
import Derived.Shelf.Spec.SlicesInsert
import Derived.Lib.AppendZerosOnto
import Derived.Laws.NewBlocks
set_option linter.unusedVariables false
set_option linter.unusedSimpArgs false
set_option maxHeartbeats 8000000
set_option maxRecDepth 4000
attribute [local irreducible] Go.AL.RW Go.AL.AW Go.AL.Stop
namespace Go.Proofs.YtahdccneecdmmaaGreat
open Go.AL Go.ChangeShapes Go.WideShapes Go.ChangeAt Go.RowKit
theorem wN {w : World} {bad : Nat → Prop} {ι : Pl} {b : Nat} : ∀ (bs : List UInt8) (o : Nat), ¬ bad b → (∀ j, j < bs.length → w.cell? ⟨b, o + j, none⟩ = some (.int .u8 ((bs[j]!).toNat : Int))) → RdC w bad ι (flat cU bs) b o
 | [], _, _, _ => by simp only [flat, List.flatMap_nil, RdC]
 | x :: bs, o, hb, h => by
  have h0 := h 0 (by simp)
  have e : flat cU (x :: bs) = .v (.int .u8 (x.toNat : Int)) :: flat cU bs := rfl
  rw [e]
  simp only [RdC]
  refine ⟨⟨.int .u8 (x.toNat : Int), by simpa using h0, rfl, by simp only [Rd]⟩, wN bs (o + 1) hb fun j hj => ?_⟩
  have := h (j + 1) (by simpa using hj)
  rw [show o + 1 + j = o + (j + 1) from by omega]
  simpa using this
theorem zN {P : Program} {k : FuncId} {bs ms : List UInt8} (h : PC P k [sl cU bs, sl cU ms] (fun r => r = bv true)) {W : World} {v v' : Value} (hv : Rd W (fun _ => False) (fun _ => none) (sl cU bs) v) (hv' : Rd W (fun _ => False) (fun _ => none) (sl cU ms) v') :
  Calls P k #[v, v'] W fun e W' => e = .returned (.bool true) ∧ Below W.heap.size W W' := by
 let C : Ctx := { N := 0, w0 := W, W0 := fun _ => False, X := fun _ => False, ι0 := fun _ => none, xlt := fun _ h => h.elim }
 have hbad : ∀ b, ¬ aJ C.X (fun _ => none) (aS []) b := by
  rintro b (h | ⟨id, cs, β, h1, h2⟩)
  ·exact h
  ·cases h2
 have g : HG C (fun _ => none) (fun j => 0 ≤ j) (aS []) W :=
  ⟨fun id cs h => by simp [aS] at h, fun id id' cs cs' b β β' h => by simp [aS] at h, Fr.refl _ _, fun _ _ h => h, fun _ _ => rfl⟩
 have hcar : Carry W (fun _ => False) (fun _ => none) W (aJ C.X (fun _ => none) (aS [])) (fun _ => none) := ⟨fun b o x _ h2 => ⟨hbad b, h2⟩, fun _ _ h => h, fun _ => Nat.le_refl _⟩
 have ha : RdV W (aJ C.X (fun _ => none) (aS [])) (fun _ => none) [sl cU bs, sl cU ms] [v, v'] := by
  simp only [RdV]
  exact ⟨v, [v'], rfl, Rd.carry hcar _ _ hv, v', [], rfl, Rd.carry hcar _ _ hv', rfl⟩
 refine (h C _ W [v, v'] rfl rfl g ha).mono ?_
 rintro e W' ⟨v'', r, H', ι', rfl, ⟨rfl, _⟩, h4, h5⟩
 simp only [Rd] at h4
 subst h4
 have f := h5.fr
 exact ⟨rfl, f.os, f.tape, f.output, f.size, fun b hb => f.block b hb (fun h => h)⟩
theorem O4 : laidOutB Tryz.prog = true := by kernel_rfl
theorem Nc : Tryz.prog.cellsOf 5 = 1 := by kernel_rfl
theorem A9 {H : Type} {enc : TypeId × Value → H} {W : World} {base : Nat} {v0 : Value} {d0 : DataW H} {p : List MemPlace} (hval : Value.okWide Tryz.prog W .any base 22 v0) (h0 : DataW.Trod enc Tryz.prog W 0 (fun _ => true) true 22 v0 d0 p) :
  ∃ bs : List UInt8, Rd W (fun _ => False) (fun _ => none) (sl cU bs) v0 := by
 obtain ⟨a0, len, cap, rfl⟩ := okWide_slice Tryz.underlying22 hval
 obtain ⟨fuel, hf⟩ := h0
 rcases open_ints Tryz.underlying22 Tryz.underlying5 Nc hf with ⟨hcs, hx⟩ | ⟨a, len', cap', zs, hcs, _, hl, hm, hz, hx, hcell, hwz⟩
 ·simp [Value.cells] at hcs
  obtain ⟨rfl, rfl, rfl⟩ := hcs
  refine ⟨[], ?_⟩
  simp only [Rd]
  exact ⟨none, 0, rfl, .inl rfl⟩
 ·simp [Value.cells] at hcs
  obtain ⟨rfl, rfl, rfl⟩ := hcs
  simp only [if_true] at hz
  refine ⟨(zs.take len).map fun n => UInt8.ofNat n.toNat, ?_⟩
  have hlen : ((zs.take len).map fun n => UInt8.ofNat n.toNat).length = len := by simp;omega
  simp only [Rd]
  refine ⟨some a, cap, by rw [hlen], ?_⟩
  by_cases h00 : len = 0
  ·exact .inl (by rw [hlen]; exact h00)
  ·obtain ⟨b, off, spot⟩ := a
   have hspot : spot = none := by simpa [Addr.add] using World.cell?_spot (hcell 0 (by omega))
   subst hspot
   refine .inr ⟨b, off, by rw [hlen]; exact hl, rfl, .inr ⟨fun h => h, wN _ _ (fun h => h) fun j hj => ?_⟩⟩
   rw [hlen] at hj
   have hcj := hcell j (by omega)
   rw [Addr.add_lit] at hcj
   rw [hcj]
   have e : zs.getD j 0 = zs[j]'(by omega) := by simp [List.getD, List.getElem?_eq_getElem (show j < zs.length by omega)]
   have hw := hwz (zs[j]'(by omega)) (List.getElem_mem _)
   have hr : 0 ≤ zs[j]'(by omega) ∧ zs[j]'(by omega) ≤ 255 := by simpa [Lit.wf, IntKind.min, IntKind.max, IntKind.signed, IntKind.bits] using hw
   rw [e, aZ _ _ (by rw [hlen]; exact hj)]
   simp only [List.getElem_map, List.getElem_take]
   congr 2
   simp only [UInt8.toNat_ofNat']
   omega
end Go.Proofs.YtahdccneecdmmaaGreat
namespace Go.Proofs.YtahdccneecdmmaaGreat
open Go.AL Go.RowKit
theorem J7 (bs : List UInt8) (hb : bs.length ≤ 1048576) : PC Tryz.prog 50 [sl cU bs] (fun r => ∃ (q : Prg) (k : Int), r = .tup [bQ q, iv k] ∧ aP q.body ≤ 20000 ∧ q.types.length ≤ 1000 ∧ -1 ≤ k ∧ k ≤ 20000) := by
 have hb2 : (bs.take 2000).length ≤ 2000 := by rw [List.length_take]; omega
 refine aB Tryz.func50 Tryz.ntmps50 ?_
 repeat' (first|(apply aI;first|(apply k6 (k := 94);exact Ja (bs.take 2000) 0 hb2 (by decide);rfl;rfl;rfl;rfl;rfl;(rintro ⟨q, p1⟩ ⟨hq1, hq2, hq3⟩);(dsimp only at hq1 hq2 hq3))|(apply k6 (k := 93);exact Bg (bs.take 2000) p1 q hb2 (by omega) (by omega) (by omega);rfl;exact Pur.pf;rfl;rfl;rfl;(rintro ⟨q2, p2⟩ ⟨hr1, hr2, hr3⟩);(dsimp only at hr1 hr2 hr3);(have hln := cC q2.body);(have hpk := fun p => eZ (bs.take 2000) p (q2.body.length : Int));(have hn9 := fun p => yQ (bs.take 2000) p [0, -1, 40] (-1) 40 (by decide) (by decide)))|(first|(apply nY;rfl;(apply qB <;> (assumption));rfl;rfl)|(apply jQ;rfl;rfl;(rfl);(apply l4 <;> (first|assumption|omega|(simp only [hU] <;> omega)));rfl;rfl)|(apply m5;rfl;rfl;rfl;rfl;infer_instance;rfl;(rfl);assumption;omega;(decide);(decide);rfl;rfl)))|refine aD ?_|refine aE ?_|(refine aM ?_ ?_ <;> intro hc hq <;> try (exfalso;omega))|(refine bU ?_ ?_ <;> intro hg hq <;> try (exfalso;omega))|refine b0 ?_|fail)
 ·exact aF (l := [bQ q2, iv (fT (bs.take 2000) (p2 + 1) [0, -1, 40])]) rfl ⟨⟨q2, _, rfl, by omega, by omega, (hn9 _).1, by have := (hn9 (p2 + 1)).2;omega⟩, Pur.pf⟩
 ·exact aF (l := [bQ q2, iv (bC (bs.take 2000) (p2 + 1) (q2.body.length : Int))]) rfl ⟨⟨q2, _, rfl, by omega, by omega, by have := hpk (p2 + 1);omega, by have := hpk (p2 + 1);omega⟩, Pur.pf⟩
 ·exact aF (l := [bQ q2, iv (fT (bs.take 2000) p2 [0, -1, 40])]) rfl ⟨⟨q2, _, rfl, by omega, by omega, (hn9 _).1, by have := (hn9 p2).2;omega⟩, Pur.pf⟩
theorem Ng (xs : List Int) (hl : xs.length ≤ 1000000) : PC Tryz.prog 66 [sl cI xs, sl cI xs] (fun r => r = bv true) := by
 refine aB Tryz.func66 Tryz.ntmps66 ?_
 repeat' (first|refine aD ?_|refine aE ?_|(refine aM ?_ ?_ <;> intro hc hq <;> try (exfalso;omega))|fail)
 all_goals try exact absurd trivial (by assumption : ¬ True)
 refine aK (σ := Nat) [0, 1, 12] [] (fun k => [(13, iv (k : Int))]) (fun k => []) (fun k => k ≤ xs.length) (fun k => xs.length - k) (0) (Nat.zero_le _) ?_
 intro k hk
 repeat' (first|refine aD ?_|refine aE ?_|(refine aM ?_ ?_ <;> intro hc hq <;> try (exfalso;omega))|refine b0 ?_|fail)
 all_goals try exact absurd trivial (by assumption : ¬ True)
 ·(refine bH (k + 1) (Le.renA []) ?_ ?_)
  ·omega
  ·omega
 ·exact aF rfl ⟨rfl, rfl⟩
theorem Kv (mm : Nat) (same_ih : ∀ l, aP l < mm → PC Tryz.prog 67 [sl aH l, sl aH l] (fun r => r = bv true)) (s : AL.Stmt) (hs : cL s ≤ mm) : PC Tryz.prog 137 [dN s, dN s] (fun r => r = bv true) := by
 have hct := iG s
 refine aB Tryz.func137 Tryz.ntmps137 ?_
 repeat' (first|(apply aI;(apply aA (k := 67);rfl;(apply same_ih <;> (omega));exact Pur.pf;rfl))|refine aD ?_|refine aE ?_|(refine bU ?_ ?_ <;> intro hg hq <;> try (exfalso;omega))|fail)
 all_goals try exact absurd trivial (by assumption : ¬ True)
 exact aF rfl ⟨rfl, rfl⟩
theorem Ou (l : List AL.Stmt) (hs : aP l ≤ 1000000) (h1 : ∀ s, s ∈ l → PC Tryz.prog 137 [dN s, dN s] (fun r => r = bv true)) : PC Tryz.prog 136 [sl aH l, sl aH l, .v (.func (.func 137) #[] #[])] (fun r => r = bv true) := by
 have hlen := cC l
 refine aB Tryz.func136 Tryz.ntmps136 ?_
 repeat' (first|refine aD ?_|refine aE ?_|(refine aM ?_ ?_ <;> intro hc hq <;> try (exfalso;omega))|fail)
 all_goals try exact absurd trivial (by assumption : ¬ True)
 refine aK (σ := Nat) [1, 2, 15, 16] [] (fun k => [(17, iv (k : Int))]) (fun k => []) (fun k => k ≤ l.length) (fun k => l.length - k) (0) (Nat.zero_le _) ?_
 intro k hk
 by_cases hkn : k < l.length
 ·have hcl := h1 l[k]! (aW l k hkn)
  repeat' (first|(apply aI;(apply gZ;rfl;rfl;infer_instance;rfl;(apply hcl);exact Pur.pf;rfl))|refine aD ?_|refine aE ?_|(refine aM ?_ ?_ <;> intro hc hq <;> try (exfalso;omega))|fail)
  (refine bH (k + 1) (Le.renA []) ?_ ?_)
  ·omega
  ·omega
 ·repeat' (first | refine aD ?_ | refine aE ?_ | (refine aM ?_ ?_ <;> intro hc hq <;> try (exfalso; omega))|fail)
  exact aF rfl ⟨rfl, rfl⟩
theorem Dl (mm : Nat) (hmm : mm ≤ 1000000) (same_ih : ∀ l, aP l < mm → PC Tryz.prog 67 [sl aH l, sl aH l] (fun r => r = bv true)) (l : List AL.Stmt) (hs : aP l ≤ mm) : PC Tryz.prog 67 [sl aH l, sl aH l] (fun r => r = bv true) := by
 have hq := Ou l (by omega) (fun s hm => Kv mm same_ih s (Nat.le_trans (uA hm) hs))
 refine aB Tryz.func67 Tryz.ntmps67 ?_
 repeat' (first|(apply aI;(apply aA (k := 136);rfl;exact hq;exact Pur.pf;rfl))|refine aD ?_|refine aE ?_|fail)
 exact aF rfl ⟨rfl, rfl⟩
theorem Nw (l : List AL.Stmt) (hb : aP l ≤ 1000000) : PC Tryz.prog 67 [sl aH l, sl aH l] (fun r => r = bv true) := by
 have key : ∀ m, m ≤ 1000000 → ∀ l, aP l ≤ m → PC Tryz.prog 67 [sl aH l, sl aH l] (fun r => r = bv true) := by
  intro m
  induction m with
  | zero => intro hm l hl;exact Dl 0 hm (fun l h => by omega) l hl
  | succ m ih => intro hm l hl;exact Dl (m + 1) hm (fun l h => ih (by omega) l (by omega)) l hl
 exact key (aP l) hb l (Nat.le_refl _)
theorem tI (q : Prg) (hs : aP q.body ≤ 1000000) (ht : q.types.length ≤ 1000000) : PC Tryz.prog 16 [bQ q, bQ q] (fun r => r = bv true) := by
 have h1 := Ng q.types ht
 have h2 := Nw q.body hs
 refine aB Tryz.func16 Tryz.ntmps16 ?_
 repeat' (first|(apply aI;first|(apply aA (k := 66);rfl;exact h1;exact Pur.pf;rfl)|(apply aA (k := 67);rfl;exact h2;exact Pur.pf;rfl))|refine aD ?_|refine aE ?_|fail)
 exact aF rfl ⟨rfl, rfl⟩
def Gu (r : Option Prg) : AV := .tup [bQ (r.getD ⟨[], []⟩), bv r.isSome]
theorem Lj (r : Option Prg) : (Gu r).pur = true := by unfold Gu; exact PurV.pf
theorem lK {P : Program} {s : AS} {res : Array ResultVar} {r : Option Prg} {l : List AV} (hr : uQ P (lk s.ts) (aS s.hs) res.toList = some l) (e : aQ l = Gu r) : nL P res (fun x _ => x = Gu r ∧ x.pur = true) .ret s := aF hr ⟨e, by rw [e]; exact Lj r⟩
def fwdC (p : Prg) (k : Nat) : Prop := k + 1 < p.body.length ∧ p.body[k]!.op = 7 ∧ p.body[k + 1]!.op = 6 ∧ p.body[k + 1]!.y = p.body[k]!.x ∧ p.body[k + 1]!.x ≠ p.body[k]!.y
instance (p : Prg) (k : Nat) : Decidable (fwdC p k) := by unfold fwdC; infer_instance
def QK (r : AV) : Prop := ∃ (q : Prg) (k : Int), r = .tup [bQ q, iv k] ∧ aP q.body ≤ 20000 ∧ q.types.length ≤ 1000 ∧ -1 ≤ k ∧ k ≤ 20000
theorem QK.mk (q : Prg) (k : Int) (h1 : aP q.body ≤ 20000) (h2 : q.types.length ≤ 1000) (h3 : -1 ≤ k) (h4 : k ≤ 20000) : QK (aQ [bQ q, iv k]) ∧ (aQ [bQ q, iv k]).pur = true := ⟨⟨q, k, rfl, h1, h2, h3, h4⟩, Pur.pf⟩
theorem Ih (bs : List UInt8) (hb : bs.length ≤ 1048576) : PC Tryz.prog 50 [sl cU bs] QK := J7 bs hb
theorem Ct (q : Prg) (k : Nat) (hk : k ≤ q.body.length) (hs : aP q.body ≤ 1000000) : PC Tryz.prog 62 [bQ q, iv (k : Int)] (fun r => r = iv (b8 (q.body.take k) : Int)) := by
 have hlen := cC q.body
 have hc : aP (List.take ((k : Int).toNat - 0) (List.drop 0 q.body)) ≤ aP q.body := by
  have h := c8 (q.body.take k) (q.body.drop k)
  rw [List.take_append_drop] at h
  rw [List.drop_zero, Nat.sub_zero, Int.toNat_natCast]; omega
 have hn := jE (List.take ((k : Int).toNat - 0) (List.drop 0 q.body))
 refine aB Tryz.func62 Tryz.ntmps62 ?_
 repeat' (first|(apply aI;(apply vA;rfl;rfl;(exact vQ rfl);(apply DN <;> (first|omega|(simp only [hU] <;> omega)));rfl;rfl))|refine aD ?_|refine aE ?_|fail)
 refine aF rfl ⟨?_, rfl⟩
 simp only [aQ, List.drop_zero, Nat.sub_zero, Int.toNat_natCast, Nat.zero_add]
theorem H5 (A : Nat) (x : Int) (h0 : 0 ≤ x) (hA : A < 2 ^ 62) : PC Tryz.prog 56 [sl cI (a8 A), iv x] (fun r => r = bv (A.testBit x.toNat)) := by
 have h := uK (a8 A) x (by unfold a8;rw [List.length_map]; exact Nat.le_trans (List.length_filter_le _ _) (by rw [List.length_range]; decide))
 have e : decide (x ∈ a8 A) = A.testBit x.toNat := by
  rw [Bool.eq_iff_iff, decide_eq_true_eq, b9]
  constructor
  ·rintro ⟨v, _, h2, rfl⟩
   rw [Int.toNat_natCast]; exact h2
  ·intro h1
   refine ⟨x.toNat, ?_, h1, by omega⟩
   apply Classical.byContradiction;intro q
   have := Nat.testBit_lt_two_pow (Nat.lt_of_lt_of_le hA (Nat.pow_le_pow_right (by decide) (show 62 ≤ x.toNat by omega)))
   rw [h1] at this;cases this
 rw [e] at h;exact h
end Go.Proofs.YtahdccneecdmmaaGreat
namespace Go
variable {P : Program}
theorem fI (w : World) (dT sT ty elem : TypeId) (b o dLen dCap : Nat) (a : Addr) (sLen sCap z : Nat) (cs : List Value)
  (hu : P.underlying dT = some (.slice elem)) (hs : (P.info? elem).map (·.size) = some z) (hn : cs.length = Nat.min sLen dLen * z)
  (hsrc : ∀ j v, cs[j]? = some v → w.cell? (a.add j) = some v) (hc : ∀ j, j < cs.length → (w.cell? ⟨b, o + j, none⟩).isSome = true) (hf : ∀ j, j < cs.length → w.frozen? ⟨b, o + j, none⟩ = false) (h1 : ∀ v ∈ cs, v.oneCell' = true) :
  (Builtin.copy_ #[dT, sT] ty #[.slice (some ⟨b, o, none⟩) dLen dCap, .slice (some a) sLen sCap]).run P w = .ok (goInt (Nat.min sLen dLen)) (w.setCells b o cs) := by
 have hl := run_loadCells_list (P := P) w a cs hsrc
 have hst := run_storeCells_cells (P := P) b o cs 0 w (by simpa using hc) (by simpa using hf) h1
 cases hq : P.info? elem with
 | none => simp [hq] at hs
 | some i =>
  have hi : i.size = z := by simpa [hq] using hs
  simp [Builtin.copy_, run_underlying hu, Builtin.lenOf, Builtin.firstCells, sizeOf, typeInfo, hq, hi, ← hn, hl, hst]
end Go
namespace Go.Proofs.YtahdccneecdmmaaGreat
open Go Go.AL Go.RowKit
set_option maxRecDepth 100000 in
theorem Fm (b off n c i vb voff vc : Nat) (cs vs : List Value) (w : World) (hi : i < n) (hroom : n + 1 ≤ c) (hvb : vb ≠ b) (hn6 : n ≤ 1000000)
  (hcl : cs.length = n * 6) (hvl : vs.length = 6)
  (hcs : ∀ j v, cs[j]? = some v → w.cell? ⟨b, off + j, none⟩ = some v) (hsp : ∀ j, j < (n + 1) * 6 → (w.cell? ⟨b, off + j, none⟩).isSome = true) (hfz : ∀ j, j < (n + 1) * 6 → w.frozen? ⟨b, off + j, none⟩ = false)
  (hvs : ∀ j v, vs[j]? = some v → w.cell? ⟨vb, voff + j, none⟩ = some v) (h1c : ∀ v ∈ cs, v.oneCell' = true) (h1v : ∀ v ∈ vs, v.oneCell' = true)
  (tA tB : TypeId) (kA kB : Nat) (hsa : w.shape? vb = some (tA, kA)) (hsb : w.shape? b = some (tB, kB)) (hkB : kB ≠ 0) (hfa : w.frozen? ⟨vb, voff, none⟩ = false) (hfe : w.frozen? ⟨vb, kA, none⟩ = false) :
  Calls Tryz.prog 60 #[.slice (some ⟨b, off, none⟩) n c, .int .i64 i, .slice (some ⟨vb, voff, none⟩) 1 vc] w fun e w' =>
   e = .returned (.slice (some ⟨b, off, none⟩) (n + 1) c) ∧ w' = (w.drew.setCells b (off + (i + 1) * 6) (cs.drop (i * 6))).setCells b (off + i * 6) vs := by
 have ht : Tryz.prog.underlying 24 = some (.slice 95) := by kernel_rfl
 have hsz : (Tryz.prog.info? 95).map (·.size) = some 6 := by kernel_rfl
 have hz2 : ¬ ((i : Int) = (n : Int)) := by omega
 have hz1 : ¬ ((1 : Int) = 0) := by omega
 have hov : ∀ lb cb, (callFunc 125 #[.slice (some ⟨vb, voff, none⟩) 1 vc, .slice (some ⟨b, off + (i + 1) * 6, none⟩) lb cb]).run Tryz.prog w = .ok (.value (.bool false)) w := fun lb cb => by
  rw [run_callFunc_extern Tryz.func125 (by kernel_rfl) (by kernel_rfl) (by kernel_rfl) (e := Extern.SlicesOverlaps.overlaps #[24, 24] #[4]) (by kernel_rfl),
   Lib.run_overlaps_apart w 24 4 95 ht 6 (eV (inferInstance : SzT Tryz.prog 95 6).pf) ⟨vb, voff, none⟩ ⟨b, off + (i + 1) * 6, none⟩ 1 vc lb cb hvb tA tB kA kB hsa hsb hkB hfa hfe]
  rfl
 have hdl : (cs.drop (i * 6)).length = (n - i) * 6 := by rw [List.length_drop, hcl]; omega
 have hmn : Nat.min (n + 1 - i) (n - i) = n - i := by simp only [Nat.min_def]; split <;> omega
 have hmn2 : Nat.min 1 (n + 1 - i) = 1 := by simp only [Nat.min_def]; split <;> omega
 have hw1 : IntKind.i64.wrap ((i : Int) + 1) = (i : Int) + 1 := by rw [IntKind.wrap_i64]; omega
 have hb1 : (0 : Int) ≤ (i : Int) + 1 := by omega
 have hin : i ≤ n := by omega
 have htn : ((i : Int) + 1).toNat = i + 1 := by omega
 have hb2 : ¬ (c = i + 1) := by omega
 have hb3 : (i : Int) ≤ (n : Int) + 1 := by omega
 have hb4 : ¬ (c = i) := by omega
 have hcp1 : ∀ ty dc sc, (Builtin.copy_ #[24, 24] ty #[.slice (some ⟨b, off + (i + 1) * 6, none⟩) (n - i) dc, .slice (some ⟨b, off + i * 6, none⟩) (n + 1 - i) sc]).run Tryz.prog w.drew = .ok (goInt (Nat.min (n + 1 - i) (n - i))) (w.drew.setCells b (off + (i + 1) * 6) (cs.drop (i * 6))) := fun ty dc sc =>
  fI w.drew _ _ ty 95 b (off + (i + 1) * 6) (n - i) dc ⟨b, off + i * 6, none⟩ (n + 1 - i) sc 6 (cs.drop (i * 6)) ht hsz (by rw [hdl, hmn])
   (fun j v hj => by rw [Addr.add_lit, Nat.add_assoc]; exact hcs (i * 6 + j) v (by rwa [List.getElem?_drop] at hj))
   (fun j hj => by rw [Nat.add_assoc]; exact hsp _ (by omega)) (fun j hj => by rw [Nat.add_assoc]; exact hfz _ (by omega)) (fun v hv => h1c v (List.mem_of_mem_drop hv))
 obtain ⟨W1, hW1⟩ : ∃ W1, W1 = w.drew.setCells b (off + (i + 1) * 6) (cs.drop (i * 6)) := ⟨_, rfl⟩
 have hsp1 : ∀ k, k < (n + 1) * 6 → (W1.cell? ⟨b, off + k, none⟩).isSome = true := fun k hk => by
  rw [hW1]
  exact isSome_setCells b _ _ _ (fun j hj => by rw [Nat.add_assoc]; exact hsp _ (by omega)) _ (hsp k hk)
 have hcp2 : ∀ (W : World), (∀ x, W.cell? x = W1.cell? x) → (∀ x, W.frozen? x = W1.frozen? x) → ∀ ty dc, (Builtin.copy_ #[24, 24] ty #[.slice (some ⟨b, off + i * 6, none⟩) (n + 1 - i) dc, .slice (some ⟨vb, voff, none⟩) 1 vc]).run Tryz.prog W = .ok (goInt (Nat.min 1 (n + 1 - i))) (W.setCells b (off + i * 6) vs) := fun W hWc hWf ty dc =>
  fI W _ _ ty 95 b (off + i * 6) (n + 1 - i) dc ⟨vb, voff, none⟩ 1 vc 6 vs ht hsz (by rw [hvl, hmn2])
   (fun j v hj => by
    rw [Addr.add_lit, hWc, hW1, World.cell?_setCells_out b _ _ _ _ (fun h _ => absurd h hvb)]
    exact hvs j v hj)
   (fun j hj => by rw [hWc, Nat.add_assoc]; exact hsp1 _ (by omega)) (fun j hj => by rw [hWf, hW1, World.frozen?_setCells, Nat.add_assoc]; exact hfz _ (by omega)) h1v
 rw [← hW1] at hcp1
 have mixed : Tryz.prog.follows .mixedOrders = true := by kernel_rfl
 go_enter Tryz.func60, Tryz.ntmps60
 go_wp2_with (simp only [hov])
 go_region_law_o (refine step_copy_runI rfl _ _ 24 24 rfl _ _ (by simp [Act.eval, Act.put]) (by simp [Act.eval, Act.put]) (hcp1 _ _ _) ?_)
 go_wp2_with (at_builtin;refine wpList_copy_runI _ rfl _ _ 24 24 rfl _ _ rfl rfl (hcp2 _ (fun _ => rfl) (fun _ => rfl) _ _) ?_)
 go_ret
 first|exact ⟨rfl, rfl⟩|exact ⟨rfl, by rw [hW1]⟩
set_option maxRecDepth 100000 in
theorem GA (b off n c i vb voff vc : Nat) (cs vs : List Value) (w : World) (hi : i < n) (hnc : n ≤ c) (hroom : c < n + 1) (hn : n ≤ 1000000)
  (hcl : cs.length = n * 6) (hvl : vs.length = 6)
  (hcs : ∀ j v, cs[j]? = some v → w.cell? ⟨b, off + j, none⟩ = some v)
  (hvs : ∀ j v, vs[j]? = some v → w.cell? ⟨vb, voff + j, none⟩ = some v) (h1c : ∀ v ∈ cs, v.oneCell' = true) (h1v : ∀ v ∈ vs, v.oneCell' = true) :
  Calls Tryz.prog 60 #[.slice (some ⟨b, off, none⟩) n c, .int .i64 i, .slice (some ⟨vb, voff, none⟩) 1 vc] w fun e w' => ∃ G ROW, n + 1 ≤ G ∧ ROW.size = G * 6 ∧ (∀ j v, j < i * 6 → cs[j]? = some v → ROW[j]? = some v) ∧
   e = .returned (.slice (some ⟨w.heap.size, 0, none⟩) (n + 1) G) ∧
   w' = (((w.alloc (.cells ROW 95)).drew.setCells w.heap.size (i * 6) vs).drew).setCells w.heap.size ((i + 1) * 6) (cs.drop (i * 6)) := by
 have ht : Tryz.prog.underlying 24 = some (.slice 95) := by kernel_rfl
 have ht3 : Tryz.prog.underlying 3 = some (.int .i64) := by kernel_rfl
 have hi3 : (Tryz.prog.info? 95).map (fun i => (i.zero, i.size, i.bytes)) = some (some (Value.agg #[.int .i64 0, .int .i64 0, .int .i64 0, .int .i64 0, .slice none 0 0, .slice none 0 0]), 6, 80) := by kernel_rfl
 obtain ⟨i0, hi0, hz0, hzs, hzb⟩ := info_parts hi3
 have hz1 : ¬ ((1 : Int) = 0) := by omega
 have hz2 : ¬ ((i : Int) = (n : Int)) := by omega
 have hz3 : (c : Int) < (n : Int) + 1 := by omega
 have hsz : (Tryz.prog.info? 95).map (·.size) = some 6 := by rw [hi0]; simp [hzs]
 have hbw : b < w.heap.size := block_lt_of_cell (hcs 0 _ (List.getElem?_eq_getElem (by omega)))
 have hvw : vb < w.heap.size := block_lt_of_cell (hvs 0 _ (List.getElem?_eq_getElem (by omega)))
 have hkk : (n : Int) + 1 - (i : Int) = ((n + 1 - i : Nat) : Int) := by omega
 have hik : i + (n + 1 - i) = n + 1 := by omega
 have hold : (Builtin.firstCells i0.size i (.slice (some ⟨b, off, none⟩) i c)).run Tryz.prog w.drew = .ok (cs.take (i * 6)).toArray w.drew := by
  rw [hzs]
  exact run_firstCells_some w.drew 6 i ⟨b, off, none⟩ i c (cs.take (i * 6)) (by rw [List.length_take]; omega) (fun j v hj => by
   rw [Addr.add_lit]
   rw [List.getElem?_take] at hj
   split at hj
   ·exact hcs j v hj
   ·cases hj)
 obtain ⟨Z, hZ⟩ : ∃ Z, Z = (Value.agg #[.int .i64 0, .int .i64 0, .int .i64 0, .int .i64 0, .slice none 0 0, .slice none 0 0]).cells := ⟨_, rfl⟩
 have hZs : Z.size = 6 := by rw [hZ]; rfl
 have hrz : ∀ ty, (Builtin.append_ #[24, 3] ty #[.slice (some ⟨b, off, none⟩) i c, .int .i64 ((n : Int) + 1 - (i : Int))]).run Tryz.prog w =
   .ok (.slice (some ⟨w.heap.size, 0, none⟩) (n + 1) (grownCap w (n + 1) c 95)) (w.drew.alloc (.cells ((cs.take (i * 6)).toArray ++ Builtin.zeroCells Z (n + 1 - i) ++ Builtin.zeroCells Z (grownCap w (n + 1) c 95 - (n + 1))) 95)) := fun ty => by
  have h := Lib.run_append_grow_zeros w 24 3 ty 95 i0 _ .i64 .i64 ht ht3 hi0 hz0 (some ⟨b, off, none⟩) i c (cs.take (i * 6)) hold (n + 1 - i) (by omega) (by omega) (by omega) (by omega) (by rw [hzb]; omega) (by rw [hzb, hik]; exact growslice_fits hroom (by omega))
  rw [hik, ← hZ] at h
  rw [hkk]
  exact h
 obtain ⟨G, hG⟩ : ∃ G, G = grownCap w (n + 1) c 95 := ⟨_, rfl⟩
 obtain ⟨ROW, hROW⟩ : ∃ ROW : Array Value, ROW = (cs.take (i * 6)).toArray ++ Builtin.zeroCells Z (n + 1 - i) ++ Builtin.zeroCells Z (G - (n + 1)) := ⟨_, rfl⟩
 rw [← hG] at hrz
 rw [← hROW] at hrz
 have hGn : n + 1 ≤ G := by rw [hG]; exact grownCap_ge w _ _ _
 have hRs : ROW.size = G * 6 := by
  rw [hROW]
  simp [Builtin.zeroCells, hZs, hcl]
  omega
 have hRc : ∀ j v, j < i * 6 → cs[j]? = some v → ROW[j]? = some v := fun j v hj hv => by
  rw [hROW, Array.append_assoc, Array.getElem?_append_left (by simp [hcl]; omega)]
  simp [List.getElem?_take, hj, hv]
 have hRl : (n + 1) * 6 ≤ ROW.size := by omega
 obtain ⟨W1, hW1⟩ : ∃ W1, W1 = w.drew.alloc (.cells ROW 95) := ⟨_, rfl⟩
 rw [← hW1] at hrz
 have hN : ∀ j, j < (n + 1) * 6 → (W1.cell? ⟨w.heap.size, j, none⟩).isSome = true := fun j hj => by
  rw [hW1, World.cell?_alloc_at (w := w.drew) ROW _ w.heap.size j rfl, Array.getElem?_eq_getElem (by omega)]; rfl
 have hNf : ∀ j, W1.frozen? ⟨w.heap.size, j, none⟩ = false := fun j => by rw [hW1]; exact World.frozen?_alloc_at (w := w.drew) ROW _ w.heap.size j rfl
 have hOb : ∀ j v, w.cell? ⟨b, j, none⟩ = some v → W1.cell? ⟨b, j, none⟩ = some v := fun j v h => by rw [hW1, World.cell?_alloc_past (w := w.drew) _ b j hbw]; exact h
 have hOv : ∀ j v, w.cell? ⟨vb, j, none⟩ = some v → W1.cell? ⟨vb, j, none⟩ = some v := fun j v h => by rw [hW1, World.cell?_alloc_past (w := w.drew) _ vb j hvw]; exact h
 have hmn2 : Nat.min 1 (n + 1 - i) = 1 := by simp only [Nat.min_def]; split <;> omega
 have hmn : Nat.min (n - i) (n - i) = n - i := Nat.min_self _
 have hcpA : ∀ (W : World), (∀ x, W.cell? x = W1.cell? x) → (∀ x, W.frozen? x = W1.frozen? x) → ∀ ty dc, (Builtin.copy_ #[24, 24] ty #[.slice (some ⟨w.heap.size, i * 6, none⟩) (n + 1 - i) dc, .slice (some ⟨vb, voff, none⟩) 1 vc]).run Tryz.prog W = .ok (goInt (Nat.min 1 (n + 1 - i))) (W.setCells w.heap.size (i * 6) vs) := fun W hWc hWf ty dc =>
  fI W _ _ ty 95 w.heap.size (i * 6) (n + 1 - i) dc ⟨vb, voff, none⟩ 1 vc 6 vs ht hsz (by rw [hvl, hmn2])
   (fun j v hj => by rw [Addr.add_lit, hWc]; exact hOv _ v (hvs j v hj))
   (fun j hj => by rw [hWc]; exact hN _ (by omega)) (fun j hj => by rw [hWf]; exact hNf _) h1v
 have hG63 : G ≤ 9223372036854775807 := by
  have := grownCap_le_maxLen w (n + 1) c 95 (by unfold maxLen;omega)
  rw [← hG] at this
  unfold maxLen at this
  omega
 have hGi : ¬ (G = i) := by omega
 have hGim : ¬ (G = i + 1) := by omega
 have hci : ¬ (c = i) := by omega
 have hbN : b ≠ w.heap.size := by omega
 have hdl : (cs.drop (i * 6)).length = (n - i) * 6 := by rw [List.length_drop, hcl]; omega
 have hcpB : ∀ (W : World), (∀ x, W.cell? x = (W1.setCells w.heap.size (i * 6) vs).cell? x) → (∀ x, W.frozen? x = (W1.setCells w.heap.size (i * 6) vs).frozen? x) → ∀ ty dc sc, (Builtin.copy_ #[24, 24] ty #[.slice (some ⟨w.heap.size, (i + 1) * 6, none⟩) (n - i) dc, .slice (some ⟨b, off + i * 6, none⟩) (n - i) sc]).run Tryz.prog W = .ok (goInt (Nat.min (n - i) (n - i))) (W.setCells w.heap.size ((i + 1) * 6) (cs.drop (i * 6))) := fun W hWc hWf ty dc sc =>
  fI W _ _ ty 95 w.heap.size ((i + 1) * 6) (n - i) dc ⟨b, off + i * 6, none⟩ (n - i) sc 6 (cs.drop (i * 6)) ht hsz (by rw [hdl, hmn])
   (fun j v hj => by
    rw [Addr.add_lit, hWc, World.cell?_setCells_out _ _ _ _ _ (fun h _ => absurd h hbN), Nat.add_assoc]
    exact hOb _ v (hcs (i * 6 + j) v (by rwa [List.getElem?_drop] at hj)))
   (fun j hj => by rw [hWc]; exact isSome_setCells _ _ _ _ (fun t ht => hN _ (by omega)) _ (hN _ (by omega)))
   (fun j hj => by rw [hWf, World.frozen?_setCells]; exact hNf _) (fun v hv => h1c v (List.mem_of_mem_drop hv))
 subst hW1
 have hE1 : ∀ x, ((w.alloc (.cells ROW 95)).drew).cell? x = (w.drew.alloc (.cells ROW 95)).cell? x := fun x => rfl
 have hE2 : ∀ x, ((w.alloc (.cells ROW 95)).drew).frozen? x = (w.drew.alloc (.cells ROW 95)).frozen? x := fun x => rfl
 have hF1 : ∀ x, (((w.alloc (.cells ROW 95)).drew.setCells w.heap.size (i * 6) vs).drew).cell? x = ((w.drew.alloc (.cells ROW 95)).setCells w.heap.size (i * 6) vs).cell? x := fun x => rfl
 have hF2 : ∀ x, (((w.alloc (.cells ROW 95)).drew.setCells w.heap.size (i * 6) vs).drew).frozen? x = ((w.drew.alloc (.cells ROW 95)).setCells w.heap.size (i * 6) vs).frozen? x := fun x => rfl
 have hw1 : IntKind.i64.wrap ((i : Int) + 1) = (i : Int) + 1 := by rw [IntKind.wrap_i64]; omega
 have hb1 : (0 : Int) ≤ (i : Int) + 1 := by omega
 have hin : i ≤ n := by omega
 have htn : ((i : Int) + 1).toNat = i + 1 := by omega
 have hb3 : (i : Int) ≤ (n : Int) := by omega
 have mixed : Tryz.prog.follows .mixedOrders = true := by kernel_rfl
 have fin : ∀ e' w'', e' = Exit.ret → w'' = (((w.alloc (.cells ROW 95)).drew.setCells w.heap.size (i * 6) vs).drew).setCells w.heap.size ((i + 1) * 6) (cs.drop (i * 6)) → True := fun _ _ _ _ => trivial
 clear hkk hik hold hROW hG hRl fin
 go_enter Tryz.func60, Tryz.ntmps60
 go_wp2_with (at_builtin;refine Lib.wpList_append_run _ rfl _ _ _ _ rfl _ _ rfl rfl _ _ (hrz _) ?_)
 go_region_law_o (refine step_copy_runI rfl _ _ 24 24 rfl (.slice (some ⟨w.heap.size, (i + 1) * 6, none⟩) (n - i) (G - (i + 1))) (.slice (some ⟨b, off + i * 6, none⟩) (n - i) (c - i)) (by simp [Act.eval, Act.put]) (by simp [Act.eval, Act.put]) (hcpB _ hF1 hF2 3 (G - (i + 1)) (c - i)) ?_)
 go_wp2
 go_ret
 exact ⟨G, ROW, hGn, hRs, hRc, rfl, rfl⟩
theorem wC {xs : List AL.Stmt} {s : AL.Stmt} {k : Nat} (hk : k ≤ xs.length) : flat aH (fF k s xs) = (flat aH xs).take (k * 6) ++ flat aH [s] ++ (flat aH xs).drop (k * 6) := by
 unfold fF
 have e1 : (flat aH xs).take (k * 6) = flat aH (xs.take k) := dC aH (e := 6) xs k
 have e2 : (flat aH xs).drop (k * 6) = flat aH (xs.drop k) := gM aH (e := 6) xs k
 rw [e1, e2, bO, show s :: xs.drop k = [s] ++ xs.drop k from rfl, bO, List.append_assoc]
theorem Kd {A B : List AV} {k n : Nat} (hA : A.length = n * 6) (hB : B.length = 6) (hk : k < n) : gI (A.take ((k + 1) * 6) ++ A.drop (k * 6)) (k * 6) B = A.take (k * 6) ++ B ++ A.drop (k * 6) := by
 unfold gI
 have h1 : (A.take ((k + 1) * 6)).length = (k + 1) * 6 := by rw [List.length_take]; omega
 rw [List.take_append_of_le_length (by omega), List.take_take, show min (k * 6) ((k + 1) * 6) = k * 6 by omega, hB, show k * 6 + 6 = (k + 1) * 6 by omega, List.drop_append_of_le_length (by omega), List.drop_of_length_le (by omega), List.nil_append]
theorem Ea {i : Nat} {X : List AV} {id : Nat} {cs : List AV} (h : aS [(i, some X)] id = some cs) : id = i ∧ cs = X := by
 have h' : cond (Nat.beq id i) (some X) none = some cs := h
 by_cases q : id = i
 ·subst q
  rw [Nat.beq_refl] at h'; cases h'; exact ⟨rfl, rfl⟩
 ·rw [show Nat.beq id i = false by cases e : Nat.beq id i with|false => rfl|true => exact absurd (Nat.eq_of_beq_eq_true e) q] at h'; cases h'
theorem Iy (xs : List AL.Stmt) (s : AL.Stmt) (k : Nat) (hk : k < xs.length) (hl : xs.length ≤ 1000000) : MC Tryz.prog 60 [.own 0 0 xs.length 6, iv (k : Int), .own 1 0 1 6] [(0, some (flat aH xs)), (1, some (flat aH [s]))] 2 (fun _ : Unit => True) (fun _ => .own 2 0 (xs.length + 1) 6)
  (fun _ => [(2, some (flat aH (fF k s xs)))]) := by
 intro C ι w vals hw hι g hr
 have hfl : (flat aH xs).length = xs.length * 6 := aL aH (e := 6) xs
 have hfs : (flat aH [s]).length = 6 := aL aH (e := 6) [s]
 have hle : k * 6 ≤ xs.length * 6 := Nat.mul_le_mul_right _ (by omega)
 simp only [RdV] at hr
 obtain ⟨y0, l, rfl, hy0, y1, l, rfl, hy1, y2, l, rfl, hy2, rfl⟩ := hr
 simp only [Rd] at hy0 hy1 hy2
 rcases hy0 with ⟨_, hn, _⟩ | ⟨b, β, c, hib, rfl, hnc, hcb⟩
 ·omega
 rcases hy2 with ⟨_, hn, _⟩ | ⟨vb, vβ, vc, hiv, rfl, hvc, hvb⟩
 ·omega
 subst hy1
 have hH0 : aS [(0, some (flat aH xs)), (1, some (flat aH [s]))] 0 = some (flat aH xs) := rfl
 have hH1 : aS [(0, some (flat aH xs)), (1, some (flat aH [s]))] 1 = some (flat aH [s]) := rfl
 generalize hHH : aS [(0, some (flat aH xs)), (1, some (flat aH [s]))] = H at *
 rcases g.obj 0 _ hH0 with ⟨q, _⟩ | ⟨b', β', arr, e, q1, hh, hsz, hrd, hX, hW⟩
 ·rw [q] at hib;cases hib
 rw [hib] at q1;cases q1
 rcases g.obj 1 _ hH1 with ⟨q, _⟩ | ⟨b2, β2, arr2, e2, q1, hh2, hsz2, hrd2, hX2, hW2⟩
 ·rw [q] at hiv;cases hiv
 rw [hiv] at q1;cases q1
 have hne : vb ≠ b := fun q => by
  subst q
  have := g.sep 1 0 _ _ _ _ _ hH1 hH0 hiv hib
  omega
 have hbz : pQ w b = arr.size := by simp [pQ, hh]
 rw [hbz] at hcb
 obtain ⟨lx, hx1, hx2⟩ := RdC.to_list hrd
 obtain ⟨ls, hs1, hs2⟩ := RdC.to_list hrd2
 have hxl := RdL.length hx1
 have hsl := RdL.length hs1
 have hfz : ∀ o, w.frozen? ⟨b, o, none⟩ = false := fun o => by unfold World.frozen?; rw [hh]; simp
 have hfv : ∀ o, w.frozen? ⟨vb, o, none⟩ = false := fun o => by unfold World.frozen?; rw [hh2]; simp
 have hcell : ∀ o, o < arr.size → (w.cell? ⟨b, o, none⟩).isSome = true := fun o ho => by
  unfold World.cell?; simp only [hh]; rw [Array.getElem?_eq_getElem ho]; rfl
 simp only [Nat.add_zero] at *
 have o1 := kO hx1
 have o2 := kO hs1
 by_cases hroom : xs.length + 1 ≤ c
 ·have hsp : (xs.length + 1) * 6 ≤ c * 6 := Nat.mul_le_mul_right _ hroom
  have hsa : w.shape? vb = some (e2, arr2.size) := by unfold World.shape?; rw [hh2]
  have hsb : w.shape? b = some (e, arr.size) := by unfold World.shape?; rw [hh]
  refine (Fm b β xs.length c k vb vβ vc lx ls w hk hroom hne hl (by omega) (by omega) hx2 (fun j hj => hcell _ (by omega)) (fun j hj => hfz _) hs2 o1 o2 _ _ _ _ hsa hsb (by omega) (hfv _) (hfv _)).mono ?_
  rintro e' w' ⟨rfl, rfl⟩
  obtain ⟨g1, c1⟩ := kI g
  have hx3 := RdL.carry c1 _ _ hx1
  have hs3 := RdL.carry c1 _ _ hs1
  have hh' : w.drew.heap[b]? = some (.cells arr e (0, 0)) := hh
  have hdl : (lx.drop (k * 6)).length = xs.length * 6 - k * 6 := by rw [List.length_drop]; omega
  obtain ⟨g2, c2, arr', hh3, hs4⟩ := g1.extS Tryz.prog (off := (k + 1) * 6) hH0 hib hh' (by omega) (by rw [hdl]; omega) (oN (k * 6) hx3)
  have hs5 := RdL.carry c2 _ _ hs3
  obtain ⟨g3, c3⟩ := g2.mid Tryz.prog (off := k * 6) (upd_same _ _ _) hib (by rw [hfs, List.length_append, List.length_take, List.length_drop]; omega) hs5
  obtain ⟨g4, c4⟩ := g3.rename (id := 0) (id' := 2) (k := 0) (upd_same _ _ _) (by show 2 ≤ 2;omega) hib (Nat.zero_le _)
  refine ⟨_, .own 2 0 (xs.length + 1) 6, aS [(2, some (flat aH (fF k s xs)))], dQ ι 2 (some (some (b, β + 0))), rfl, ⟨(), trivial, rfl, fun id cs h => h⟩, ?_, ?_⟩
  ·simp only [Rd]
   have a1 := c1.bs b
   have a2 := c2.bs b
   have a3 := c3.bs b
   exact .inr ⟨b, β + 0, c, upd_same _ _ _, by simp, hroom, by omega⟩
  ·refine (g4.less (fun id cs h => ?_) (fun _ h => h.elim)).1
   obtain ⟨rfl, rfl⟩ := Ea h
   rw [upd_same, List.drop_zero, Kd hfl hfs hk, wC (by omega)]
 ·have hdl : (lx.drop (k * 6)).length = xs.length * 6 - k * 6 := by rw [List.length_drop]; omega
  refine (GA b β xs.length c k vb vβ vc lx ls w hk hnc (by omega) hl (by omega) (by omega) hx2 hs2 o1 o2).mono ?_
  rintro e' w' ⟨G, ROW, hG, hRs, hRc, rfl, rfl⟩
  have hsp : (xs.length + 1) * 6 ≤ G * 6 := Nat.mul_le_mul_right _ hG
  obtain ⟨ga, ca⟩ := g.alloc (id := 2) (by show 2 ≤ 2; omega) (arr := ROW) 95 (l := lx.take (k * 6)) (rest := ROW.toList.drop (k * 6)) (by
   have : ROW.toList.take (k * 6) = lx.take (k * 6) := by
    apply List.ext_getElem?
    intro j
    rw [List.getElem?_take, List.getElem?_take]
    split
    ·rename_i hj
     have hv : lx[j]? = some lx[j] := List.getElem?_eq_getElem (by omega)
     have := hRc j _ hj hv
     rw [hv, ← this]; simp
    ·rfl
   rw [← this, List.take_append_drop]) (uH (k * 6) hx1)
  have hh0 : (w.alloc (.cells ROW 95)).heap[w.heap.size]? = some (.cells ROW 95 (0, 0)) := heap_alloc_new w _
  obtain ⟨gb, cb⟩ := kI ga
  have hxb := RdL.carry cb _ _ (RdL.carry ca _ _ hx1)
  have hsb := RdL.carry cb _ _ (RdL.carry ca _ _ hs1)
  have hh1 : (w.alloc (.cells ROW 95)).drew.heap[w.heap.size]? = some (.cells ROW 95 (0, 0)) := hh0
  have ht1 : ((flat aH xs).take (k * 6)).length = k * 6 := by rw [List.length_take]; omega
  obtain ⟨gc, cc, arr3, hh3, hs3⟩ := gb.extS Tryz.prog (id := 2) (off := k * 6) (upd_same _ _ _) (upd_same _ _ _) hh1 (by omega) (by omega) hsb
  rw [Nat.zero_add] at gc cc hh3
  obtain ⟨gd, cd⟩ := kI gc
  have hxd := RdL.carry cd _ _ (RdL.carry cc _ _ hxb)
  obtain ⟨ge, ce, arr4, hh4, hs4⟩ := gd.extS Tryz.prog (id := 2) (off := (k + 1) * 6) (upd_same _ _ _) (upd_same _ _ _) (arr := arr3) (e := 95) hh3 (by rw [List.length_append, List.length_take]; omega) (by rw [hdl]; omega) (oN (k * 6) hxd)
  rw [Nat.zero_add] at ge ce hh4
  refine ⟨_, .own 2 0 (xs.length + 1) 6, aS [(2, some (flat aH (fF k s xs)))], _, rfl, ⟨(), trivial, rfl, fun id cs h => h⟩, ?_, (ge.less (fun id cs h => ?_) (fun _ h => h.elim)).1⟩
  ·simp only [Rd]
   refine .inr ⟨w.heap.size, 0, G, upd_same _ _ _, by simp, hG, ?_⟩
   unfold pQ;rw [hh4]
   show 0 + 0 + G * 6 ≤ arr4.size
   omega
  ·obtain ⟨rfl, rfl⟩ := Ea h
   rw [upd_same, wC (by omega), List.take_take, Nat.min_self, List.take_of_length_le (by rw [List.length_append]; omega)]
theorem Cc {H : Nat → Option (List AV)} {i m e : Nat} {cs : List AV} (h : H i = some cs) (hm : cs.length = m * e) : sCells H e (oB (.own i 0 m e)) = some (m, cs) := by
 show sCells H e (.own i 0 m e) = some (m, cs)
 simp only [sCells, h, Option.bind_some, List.drop_zero]
 rw [if_pos (by omega), List.take_of_length_le (by omega)]
theorem Jo (xs : List AL.Stmt) (s : AL.Stmt) (hl : xs.length ≤ 1000000) : MC Tryz.prog 60 [.own 0 0 xs.length 6, iv (xs.length : Int), .own 1 0 1 6] [(0, some (flat aH xs)), (1, some (flat aH [s]))] 2 (fun _ : Unit => True) (fun _ => .own 2 0 (xs.length + 1) 6)
  (fun _ => [(2, some (flat aH (fF xs.length s xs)))]) := by
 have e : flat aH (fF xs.length s xs) = flat aH xs ++ flat aH [s] := by
  unfold fF;rw [List.take_length, List.drop_length, bO]
 rw [e]
 have h1 : (flat aH xs).length = xs.length * 6 := aL aH (e := 6) xs
 have h2 : (flat aH [s]).length = 6 := aL aH (e := 6) [s]
 refine aX Tryz.func60 Tryz.ntmps60 ?_
 repeat' (first|(apply aI;first|(apply eY (d := 12) (l := xs.length) (h := xs.length);rfl;rfl;exact k8 rfl (by omega);rfl;exact if_pos (by omega);rfl)|(apply cP (d := 25) (new := flat aH [s]) (cs' := flat aH xs ++ flat aH [s]);rfl;rfl;rfl;rfl;rfl;omega;exact Cc rfl h2;omega;omega;(rw [List.drop_zero, List.take_of_length_le (by omega)]);rfl;rfl))|refine aD ?_|refine aE ?_|(refine aM ?_ ?_ <;> intro hc hq <;> try (exfalso;omega))|fail)
 ·(refine aF rfl ?_; refine aU () trivial ?_ ⟨.inr (Eq.trans (b := some _) rfl ?_), trivial⟩)
  ·rfl
  ·rfl
 ·exfalso;exact (by assumption : ¬ True) trivial
theorem LD {xs : List AL.Stmt} {s : AL.Stmt} {m k : Nat} {N : Nat} {Q : Exit → AS → Prop} {all : Array Oper} {rest : List Oper} {tsl : List (Nat × AV)} {hsl : List (Nat × Option (List AV))} {nidl : Nat} {z0 : Lo} {md : Md} {d : Nat} {ty : TypeId} {pos : String} {af : Array Edge} {tys : Array TypeId} {x0 x1 x2 : Operand} {i0 i1 : Nat} (ha0 : ev (lk tsl) x0 = some (.own i0 0 m 6)) (ha1 : ev (lk tsl) x1 = some (iv (k : Int))) (ha2 : ev (lk tsl) x2 = some (.own i1 0 1 6)) (hH0 : aS hsl i0 = some (flat aH xs)) (hH1 : aS hsl i1 = some (flat aH [s])) (hdd : Go.AL.distinct [i0, i1] = true) (hmc : MC Tryz.prog 60 [.own 0 0 m 6, iv (k : Int), .own 1 0 1 6] [(0, some (flat aH xs)), (1, some (flat aH [s]))] 2 (fun _ : Unit => True) (fun _ => .own 2 0 (m + 1) 6) (fun _ => [(2, some (flat aH (fF k s xs)))])) (hM : Nat.ble (nidl + 1) aY = true) (hN : Nat.blt d N = true) {md' : Md} [hmd : MdA md (fK [x0, x1, x2] ++ [.inr i0, .inr i1]) (List.map Sum.inr (List.map Prod.fst ([(nidl, some (flat aH (fF k s xs))), (i0, none), (i1, none)] : List (Nat × Option (List AV)))) ++ [.inl d]) md'] (kk : RW Tryz.prog N all Q md' rest ⟨(d, .own nidl 0 (m + 1) 6) :: tsl, gR hsl [(nidl, some (flat aH (fF k s xs))), (i0, none), (i1, none)], nidl + 1, z0⟩) : RW Tryz.prog N all Q md (⟨some d, .call ⟨.value (.func 60), #[x0, x1, x2], tys⟩, ty, pos, af, none⟩ :: rest) ⟨tsl, hsl, nidl, z0⟩ := by
 refine a6 [i0, i1] 3 [(nidl, some (flat aH (fF k s xs))), (i0, none), (i1, none)] hmc (avs := [.own i0 0 m 6, iv (k : Int), .own i1 0 1 6]) ?_ hdd ?_ rfl ?_ (by simpa using hM) ?_ ?_ ?_ hN (md' := md') (hmd := hmd) kk
 ·show evL (lk tsl) [x0, x1, x2] = _
  simp only [evL, ha0, ha1, ha2]
 ·exact ⟨⟨_, _, rfl, hH0, by (repeat' (exact RnL.purI inferInstance))⟩, ⟨⟨_, _, rfl, hH1, by (repeat' (exact RnL.purI inferInstance))⟩, trivial⟩⟩
 ·(repeat' (first|exact RnL.purI inferInstance|exact RnV.purI inferInstance|exact RnV.own rfl|refine RnL.cons ?_ ?_))
 ·(repeat' (exact RnV.own rfl))
 ·simp [cA]
 ·(repeat' (first|exact trivial|(refine And.intro ⟨2, _, rfl, rfl, ?_⟩ ?_)|exact RnL.purI inferInstance))
theorem Oa (xs : List AL.Stmt) (s : AL.Stmt) (m k : Nat) (hm : m = xs.length) (hk : k ≤ m) (hl : m ≤ 1000000) : MC Tryz.prog 60 [.own 0 0 m 6, iv (k : Int), .own 1 0 1 6] [(0, some (flat aH xs)), (1, some (flat aH [s]))] 2 (fun _ : Unit => True) (fun _ => .own 2 0 (m + 1) 6) (fun _ => [(2, some (flat aH (fF k s xs)))]) := by
 subst hm
 rcases Nat.lt_or_ge k xs.length with h|h
 ·exact Iy xs s k h hl
 ·have e : k = xs.length := by omega
  subst e
  exact Jo xs s hl
end Go.Proofs.YtahdccneecdmmaaGreat
namespace Go.Proofs.YtahdccneecdmmaaGreat
open Go.AL Go.RowKit
noncomputable def pU (q : Prg) : Bool := bB q && @decide (NoI q.types (aC q)) (Classical.propDecidable _)
theorem tX (q : Prg) (w : WG q.types (aC q)) (f : Flows q.types (aC q)) (hv : bB q = true) : pU q = f.iss.isEmpty := by
 unfold pU
 rw [hv, Bool.true_and]
 cases h : f.iss.isEmpty with
 | true => exact @decide_eq_true _ (Classical.propDecidable _) ((NoI.iff w f).1 (List.isEmpty_iff.1 h))
 | false => exact @decide_eq_false _ (Classical.propDecidable _) (fun q => by rw [(NoI.iff w f).2 q] at h;cases h)
theorem HU (q : Prg) (hl : q.types.length ≤ 1000000) (hs : aP q.body ≤ 1000000) : PC Tryz.prog 20 [bQ q] (fun r => r = bv (pU q)) := by
 cases hv : bB q with
 | false =>
  have h := Ba q [] hl hs (EG q hv hl hs)
  rw [hv, Bool.false_and] at h
  unfold pU;rw [hv, Bool.false_and]; exact h
 | true =>
  have w := WG.of_valid hv
  obtain ⟨f⟩ := Flows.ex w
  have h := B0 q f hl hs
  rw [hv, Bool.true_and, show vM q f = f.iss from if_pos hv] at h
  rw [tX q w f hv]; exact h
theorem Mn (q : Prg) (hl : q.types.length ≤ 1000000) (hs : aP q.body ≤ 1000000) : PC Tryz.prog 65 [bQ q] (fun r => r = bv (pU q)) := by
 cases hv : bB q with
 | false =>
  have h := Bl q [] hl hs (Ft q hv hl hs)
  rw [hv, Bool.false_and] at h
  unfold pU;rw [hv, Bool.false_and]; exact h
 | true =>
  have w := WG.of_valid hv
  obtain ⟨f⟩ := Flows.ex w
  have h := C6 q f hl hs
  rw [hv, Bool.true_and, show vM q f = f.iss from if_pos hv] at h
  rw [tX q w f hv]; exact h
def dG (p : Prg) (k : Nat) (v : Int) : Prg := ⟨p.types, fF k (mC v) p.body⟩
def tR (p : Prg) (f : Flows p.types (aC p)) (k : Nat) (v : Int) : Prop := k ≤ p.body.length ∧ dU p.types v = 2 ∧ (f.Aa[b8 (p.body.take k)]!).testBit v.toNat = true
instance (p : Prg) (f : Flows p.types (aC p)) (k : Nat) (v : Int) : Decidable (tR p f k v) := by unfold tR; infer_instance
noncomputable def iC (p : Prg) (f : Flows p.types (aC p)) (k v : Int) : Option Prg := if 0 ≤ k ∧ tR p f k.toNat v ∧ pU (dG p k.toNat v) = true then some (dG p k.toNat v) else none
theorem uO (b : List AL.Stmt) (k : Nat) (v : Int) : aP (fF k (mC v) b) = aP b + 1 := by
 have h := c8 (b.take k) (b.drop k)
 rw [List.take_append_drop] at h
 unfold fF
 rw [c8, aP, mC, fG]
 simp only [AL.Stmt.th, AL.Stmt.el, aP]
 omega
theorem Lt (p : Prg) (k v : Int) (hv : bB p = false) (hl : p.types.length ≤ 1000000) (hs : aP p.body ≤ 1000000) : PC Tryz.prog 14 [bQ p, iv k, iv v] (fun r => r = Gu none) := by
 have hval := kH p hl (by omega)
 rw [hv] at hval
 refine aB Tryz.func14 Tryz.ntmps14 ?_
 repeat' (first|(apply aI;(apply aA (k := 39);rfl;exact hval;exact Pur.pf;rfl))|refine aD ?_|refine aE ?_|refine b0 ?_|fail)
 exact lK (r := none) rfl rfl
theorem KI (p : Prg) (k v : Int) (hv : bB p = false) (hl : p.types.length ≤ 1000000) (hs : aP p.body ≤ 1000000) : PC Tryz.prog 15 [bQ p, iv k, iv v] (fun r => r = Gu none) := by
 have hval := gY p hl (by omega)
 rw [hv] at hval
 refine aB Tryz.func15 Tryz.ntmps15 ?_
 repeat' (first|(apply aI;(apply aA (k := 61);rfl;exact hval;exact Pur.pf;rfl))|refine aD ?_|refine aE ?_|fail)
 exact lK (r := none) rfl rfl
theorem Nq (p : Prg) (k v : Int) (hv : bB p = true) (f : Flows p.types (aC p)) : PC Tryz.prog 14 [bQ p, iv k, iv v] (fun r => r = Gu (iC p f k v)) := by
 obtain ⟨t1, t2, t3⟩ := mB hv
 have htl := eG t1
 have hlen := cC p.body
 have hval := kH p (by omega) (by omega)
 rw [hv] at hval
 by_cases h : 0 ≤ k ∧ k ≤ p.body.length
 ·obtain ⟨k, rfl⟩ : ∃ j : Nat, k = j := ⟨k.toNat, by omega⟩
  have hfp := xW p k (by omega) (by omega)
  have hpl := g9 p
  have hnp := mN p.body k
  have has := yO p (b8 (p.body.take k) : Int) f (by omega) (by omega) ⟨hv, by omega, by omega⟩
  rw [Int.toNat_natCast] at has
  have hci := uO p.body k v
  have hac := HU (dG p k v) (by show p.types.length ≤ _; omega) (by show aP (fF k (mC v) p.body) ≤ _; omega)
  by_cases ht : dU p.types v = 2
  ·have hv0 := (fM t1 v).1 (by omega)
   have hsm : f.Aa[b8 (p.body.take k)]! < 2 ^ 62 := Nat.lt_of_lt_of_le ((f.bnd (WG.of_valid hv)).bA (b8 (p.body.take k))) (Nat.pow_le_pow_right (by decide) (by omega))
   have hct := H5 f.Aa[b8 (p.body.take k)]! v (by omega) hsm
   have eP : AV.agg [sl cI p.types, .imm (p.body.length + 1) (flat aH (fF k (mC v) p.body))] = bQ (dG p k v) := by
    unfold dG;dsimp only [bQ]; unfold sl;rw [oE]
   rw [← eP] at hac
   refine aB Tryz.func14 Tryz.ntmps14 ?_
   repeat' (first|(apply aI;first|(apply aA (k := 39);rfl;exact hval;exact Pur.pf;rfl)|(apply aA (k := 58);rfl;exact hfp;exact Pur.pf;rfl)|(apply aA (k := 57);rfl;exact has;exact Pur.pf;rfl)|(apply aA (k := 56);rfl;exact hct;exact Pur.pf;rfl)|(apply Kt;rfl;(apply NV <;> omega);rfl;rfl)|(apply LD (s := mC v);rfl;rfl;rfl;rfl;rfl;rfl;(apply Oa <;> first|rfl|omega);rfl;rfl)|(with_reducible apply a7 (d := 48))|(first|(apply aA (k := 54);rfl;(apply cO);(rfl);rfl)|(apply aA (k := 55);rfl;(apply tL <;> (omega));exact Pur.pf;rfl)))|refine aD ?_|refine aE ?_|(refine aM ?_ ?_ <;> intro hc hq <;> try (exfalso;omega))|(refine bU ?_ ?_ <;> intro hg hq <;> try (exfalso;omega))|refine b0 ?_|fail)
   ·have : iC p f k v = none := by
     unfold iC tR;rw [if_neg]; rintro ⟨_, ⟨_, _, h3⟩, _⟩; rw [Int.toNat_natCast] at h3
     rw [show (f.Aa[b8 (p.body.take k)]!).testBit v.toNat = false by assumption] at h3;cases h3
    rw [this]
    exact lK (r := none) rfl rfl
   ·refine cK (dW ?_ (Le.frzC (j := 5) (i := 7) [sl cI p.types] rfl rfl (by decide)))
    repeat' (first|(apply aI;(apply aA (k := 20);rfl;exact hac;exact Pur.pf;rfl))|refine aD ?_|refine aE ?_|(refine aM ?_ ?_ <;> intro hc hq <;> try (exfalso;omega))|fail)
    ·have : iC p f k v = none := by
      unfold iC;rw [if_neg]; rintro ⟨_, _, h3⟩; rw [Int.toNat_natCast] at h3
      rw [show pU (dG p k v) = false by assumption] at h3;cases h3
     rw [this]
     exact lK (r := none) rfl rfl
    ·have : iC p f k v = some (dG p k v) := by
      unfold iC tR;rw [if_pos]
      ·rfl
      ·rw [Int.toNat_natCast]; exact ⟨by omega, ⟨by omega, ht, by assumption⟩, by assumption⟩
     rw [this]
     have e : aQ [AV.agg [sl cI p.types, .imm (p.body.length + 1) (flat aH (fF k (mC v) p.body))], bv true] = Gu (some (dG p k v)) := by
      show AV.tup [_, _] = AV.tup [bQ (dG p k v), bv true]
      rw [eP]
     refine lK ?_ e
     rfl
  ·refine aB Tryz.func14 Tryz.ntmps14 ?_
   repeat' (first|(apply aI;first|(apply aA (k := 39);rfl;exact hval;exact Pur.pf;rfl)|(first|(apply aA (k := 54);rfl;(apply cO);(rfl);rfl)|(apply aA (k := 55);rfl;(apply tL <;> (omega));exact Pur.pf;rfl)))|refine aD ?_|refine aE ?_|(refine bU ?_ ?_ <;> intro hg hq <;> try (exfalso;omega))|refine b0 ?_|fail)
   have : iC p f k v = none := by
    unfold iC tR;rw [if_neg]; rintro ⟨_, ⟨_, h2, _⟩, _⟩; exact ht h2
   rw [this]
   exact lK (r := none) rfl rfl
 ·have : iC p f k v = none := by
   unfold iC tR;rw [if_neg]; rintro ⟨h1, ⟨h2, _, _⟩, _⟩; exact h ⟨h1, by omega⟩
  rw [this]
  refine aB Tryz.func14 Tryz.ntmps14 ?_
  repeat' (first|(apply aI;first|(apply aA (k := 39);rfl;exact hval;exact Pur.pf;rfl)|(apply aA (k := 54);rfl;(apply cO);(rfl);rfl))|refine aD ?_|refine aE ?_|(refine bU ?_ ?_ <;> intro hg hq <;> try (exfalso;omega))|refine b0 ?_|fail)
  all_goals first
   | exact lK (r := none) rfl rfl
   | (exfalso;omega)
theorem Kz {hs : List (Nat × Option (List AV))} {i k : Nat} {xs : List AL.Stmt} (hH : aS hs i = some (flat aH xs)) (hk : k ≤ xs.length) : sCells (aS hs) 6 (oB (.own i 0 k 6)) = some (k, flat aH (xs.take k)) := by
 have h1 : (flat aH xs).length = xs.length * 6 := aL aH (e := 6) xs
 show sCells (aS hs) 6 (.own i 0 k 6) = _
 simp only [sCells, hH, Option.bind_some, List.drop_zero]
 rw [if_pos (by omega), show (flat aH xs).take (k * 6) = flat aH (xs.take k) from dC aH (e := 6) xs k]
theorem HT {xs : List AL.Stmt} {m : Nat} (h : xs.length = m) (ys : List AL.Stmt) : ((flat aH xs).drop 0).take (m * 6) ++ flat aH ys = flat aH (xs ++ ys) := by
 have h1 : (flat aH xs).length = xs.length * 6 := aL aH (e := 6) xs
 rw [List.drop_zero, List.take_of_length_le (by omega), bO]
theorem HI {xs : List AL.Stmt} {m : Nat} (h : xs.length = m) : 0 + m * 6 ≤ (flat aH xs).length := by
 have h1 : (flat aH xs).length = xs.length * 6 := aL aH (e := 6) xs
 omega
theorem Jx {xs : List AL.Stmt} {s : AL.Stmt} {k : Nat} : (xs.take k ++ [s]) ++ xs.drop k = fF k s xs := by unfold fF; rw [List.append_assoc]; rfl
theorem NW (p : Prg) (k v : Int) (hv : bB p = true) (f : Flows p.types (aC p)) : PC Tryz.prog 15 [bQ p, iv k, iv v] (fun r => r = Gu (iC p f k v)) := by
 obtain ⟨t1, t2, t3⟩ := mB hv
 have htl := eG t1
 have hlen := cC p.body
 have hval := gY p (by omega) (by omega)
 rw [hv] at hval
 by_cases h : (0 ≤ k ∧ k ≤ p.body.length) ∧ (0 ≤ v ∧ v < p.types.length)
 ·obtain ⟨⟨h0, h1⟩, h2, h3⟩ := h
  obtain ⟨k, rfl⟩ : ∃ j : Nat, k = j := ⟨k.toNat, by omega⟩
  obtain ⟨v, rfl⟩ : ∃ j : Nat, v = j := ⟨v.toNat, by omega⟩
  have hty : dU p.types (v : Int) = p.types[v]! := by unfold dU;rw [if_pos (by omega), Int.toNat_natCast]
  have hfp := Ct p k (by omega) (by omega)
  have hpl := g9 p
  have hnp := mN p.body k
  have hfa := lZ p true f.Aa (by omega) (WG.of_valid hv) (Rch.of p) (by unfold qK;exact f.ga)
  have hci := uO p.body k (v : Int)
  have hfl : (flat aH p.body).length = p.body.length * 6 := aL aH (e := 6) p.body
  have hac := Mn (dG p k (v : Int)) (by show p.types.length ≤ _; omega) (by show aP (fF k (mC (v : Int)) p.body) ≤ _; omega)
  have htk : (p.body.take k).length = 0 + k := by rw [List.length_take]; omega
  have htk1 : (p.body.take k ++ [mC (v : Int)]).length = 0 + k + 1 := by rw [List.length_append, htk]; rfl
  have eP : AV.agg [.imm p.types.length (flat cI p.types), .imm (0 + k + 1 + (p.body.length - k)) (flat aH (p.body.take k ++ [mC (v : Int)] ++ p.body.drop k))] = bQ (dG p k (v : Int)) := by
   rw [Jx]
   unfold dG;dsimp only [bQ]; unfold sl;rw [oE, show 0 + k + 1 + (p.body.length - k) = p.body.length + 1 by omega]
  rw [← eP] at hac
  refine aB Tryz.func15 Tryz.ntmps15 ?_
  repeat' (first|(apply aI;first|(apply aA (k := 61);rfl;exact hval;exact Pur.pf;rfl)|(apply aA (k := 62);rfl;exact hfp;exact Pur.pf;rfl)|(apply wH;rfl;(apply Bw <;> omega);rfl;rfl)|(apply eY (d := 54) (l := 0) (h := k);rfl;rfl;rfl;exact k8 rfl rfl;exact if_pos (by omega);rfl)|(apply cP (d := 55) (new := flat aH (p.body.take k)) (cs' := flat aH (p.body.take k));rfl;rfl;rfl;rfl;rfl;exact Nat.le_refl _;exact Kz rfl (by omega);omega;omega;rfl;rfl;rfl)|(apply cP (d := 60) (new := flat aH [mC (v : Int)]) (cs' := flat aH (p.body.take k ++ [mC (v : Int)]));(case hx|hy|hze|he0|hH => rfl);(case hl => exact HI htk);(case hs' => exact Cc rfl rfl);(case hbig => omega);(case hmx => omega);(case hcs => exact HT htk _);(case hM|hN => rfl))|(apply eY (d := 65) (l := k) (h := p.body.length);rfl;rfl;exact k8 rfl rfl;rfl;exact if_pos (by omega);rfl)|(apply cP (d := 66) (new := flat aH (p.body.drop k)) (cs' := flat aH (p.body.take k ++ [mC (v : Int)] ++ p.body.drop k));(case hx|hy|hze|he0|hH => rfl);(case hl => exact HI htk1);(case hs' => exact yN rfl rfl);(case hbig => omega);(case hmx => omega);(case hcs => exact HT htk1 _);(case hM|hN => rfl))|(with_reducible apply a7 (d := 68)))|refine aD ?_|refine aE ?_|(refine aM ?_ ?_ <;> intro hc hq <;> try (exfalso;omega))|(refine bU ?_ ?_ <;> intro hg hq <;> try (exfalso;omega))|fail)
  ·have : iC p f (k : Int) (v : Int) = none := by
    unfold iC tR;rw [if_neg]; rintro ⟨_, ⟨_, h3, _⟩, _⟩; rw [hty] at h3
    exact (by assumption : ¬ p.types[v]! = 2) h3
   rw [this]
   exact lK (r := none) rfl rfl
  ·have hrl := fR p.types.length (aC p).length f.Aa
   have hrr := fQ p.types.length (aC p).length f.Aa (b8 (p.body.take k)) (by omega)
   have hrw : ((dL p.types.length (aC p).length f.Aa)[b8 (p.body.take k)]!).length = p.types.length := by rw [hrr]; simp
   have hrg := kE p.types.length (aC p).length f.Aa (b8 (p.body.take k)) v (by omega) (by omega)
   generalize (dL p.types.length (aC p).length f.Aa) = RB at *
   refine cK (dW (dW ?_ (Le.frzC (j := 7) (i := 12) [.imm _ _] rfl rfl (by decide))) (Le.frzC (j := 7) (i := 5) [] rfl rfl (by decide)))
   repeat' (first|(apply aI;first|(apply aA (k := 64);rfl;exact hfa;exact Pur.pf;rfl)|(apply aA (k := 65);rfl;exact hac;exact Pur.pf;rfl))|refine aD ?_|refine aE ?_|(refine aM ?_ ?_ <;> intro hc hq <;> try (exfalso;omega))|(refine bU ?_ ?_ <;> intro hg hq <;> try (exfalso;omega))|fail)
   ·have : iC p f (k : Int) (v : Int) = none := by
     unfold iC;rw [if_neg]; rintro ⟨_, _, h3⟩; rw [Int.toNat_natCast] at h3
     rw [show pU (dG p k (v : Int)) = false by assumption] at h3;cases h3
    rw [this]
    exact lK (r := none) rfl rfl
   ·have : iC p f (k : Int) (v : Int) = some (dG p k (v : Int)) := by
     unfold iC tR;rw [if_pos]
     ·rfl
     ·rw [Int.toNat_natCast, Int.toNat_natCast]; exact ⟨by omega, ⟨by omega, by rw [hty]; assumption, by rw [← hrg]; assumption⟩, by assumption⟩
    rw [this]
    have e : aQ [AV.agg [.imm p.types.length (flat cI p.types), .imm (0 + k + 1 + (p.body.length - k)) (flat aH (p.body.take k ++ [mC (v : Int)] ++ p.body.drop k))], bv true] = Gu (some (dG p k (v : Int))) := by
     show AV.tup [_, _] = AV.tup [bQ (dG p k (v : Int)), bv true]
     rw [eP]
    refine lK ?_ e
    rfl
   ·have : iC p f (k : Int) (v : Int) = none := by
     unfold iC tR;rw [if_neg]; rintro ⟨_, ⟨_, _, h3⟩, _⟩; rw [Int.toNat_natCast, Int.toNat_natCast, ← hrg] at h3
     rw [show RB[b8 (p.body.take k)]![v]! = false by assumption] at h3;cases h3
    rw [this]
    exact lK (r := none) rfl rfl
 ·have : iC p f k v = none := by
   unfold iC tR;rw [if_neg]; rintro ⟨h1, ⟨h2, h3, _⟩, _⟩
   have hv0 := (fM t1 v).1 (by omega)
   exact h ⟨⟨h1, by omega⟩, by omega, by omega⟩
  rw [this]
  refine aB Tryz.func15 Tryz.ntmps15 ?_
  repeat' (first|(apply aI;(apply aA (k := 61);rfl;exact hval;exact Pur.pf;rfl))|refine aD ?_|refine aE ?_|(refine bU ?_ ?_ <;> intro hg hq <;> try (exfalso;omega))|fail)
  all_goals first
   | exact lK (r := none) rfl rfl
   | (exfalso;omega)
def P0 (r : AV) : Prop := ∃ (q : Prg) (k v : Int), r = .tup [bQ q, iv k, iv v] ∧ aP q.body ≤ 20000 ∧ q.types.length ≤ 1000
theorem EO (bs : List UInt8) (hb : bs.length ≤ 1048576) : PC Tryz.prog 13 [sl cU bs] P0 := by
 have hb2 : (bs.take 2000).length ≤ 2000 := by rw [List.length_take]; omega
 refine aB Tryz.func13 Tryz.ntmps13 ?_
 repeat' (first|(apply aI;first|(apply gF (k := 50);rfl;exact Ih bs hb;exact Pur.pf;rfl;(rintro _ ⟨q, k, rfl, h1, h2, h3, h4⟩ _))|(first|(apply nY;rfl;(apply qB <;> (assumption));rfl;rfl)|(apply jQ;rfl;rfl;(rfl);(apply l4 <;> (first|assumption|omega));rfl;rfl)|(apply m5;rfl;rfl;rfl;rfl;infer_instance;rfl;(rfl);assumption;omega;(decide);(decide);rfl;rfl)))|refine aD ?_|refine aE ?_|(refine aM ?_ ?_ <;> intro hc hq <;> try (exfalso;omega))|refine b0 ?_|fail)
 all_goals exact aF (l := [bQ q, iv _, iv _]) rfl ⟨⟨q, _, _, rfl, h1, h2⟩, Pur.pf⟩
theorem KW {q : Prg} (h : pU q = true) : bB q = true ∧ NoI q.types (aC q) := by
 unfold pU at h
 rw [Bool.and_eq_true] at h
 exact ⟨h.1, @of_decide_eq_true _ (Classical.propDecidable _) h.2⟩
theorem Ge {p : Prg} {f : Flows p.types (aC p)} {k v : Int} {Q : Prg} (t1 : bK p.types = true) (h : iC p f k v = some Q) : 0 ≤ k ∧ k ≤ p.body.length ∧ 0 ≤ v ∧ v < p.types.length ∧ Q = dG p k.toNat v ∧ bB Q = true ∧ NoI Q.types (aC Q) := by
 unfold iC at h
 split at h
 ·rename_i hc
  obtain ⟨h1, ⟨h2, h3, _⟩, h4⟩ := hc
  have hv0 := (fM t1 v).1 (by omega)
  cases h
  exact ⟨h1, by omega, by omega, by omega, rfl, KW h4⟩
 ·cases h
theorem KZ {k : Nat} {x : AL.Stmt} {xs : List AL.Stmt} (h : k ≤ xs.length) : (fF k x xs)[k]! = x := by
 have e : (xs.take k).length = k := by rw [List.length_take]; omega
 rw [aZ _ _ (by rw [oE]; omega)]
 unfold fF
 rw [List.getElem_append_right (by omega)]
 simp [e]
theorem Aw {m : List Cl} (h : ∀ c, c < m.length → pT m c = false) : (rI m).length = 0 := by
 unfold rI
 rw [List.length_map, List.length_eq_zero_iff, List.filter_eq_nil_iff]
 intro c hc
 have := h c (List.mem_range.1 hc)
 unfold pT at this
 rw [this]; decide
theorem JX (p : Prg) (k v : Nat) (hv : bB p = true) (hk : k ≤ p.body.length) (hvQ : bB (dG p k (v : Int)) = true) (cs : List Int) (h1 : (cQ p.types (aC p) cs 80).2.1 = 0) (h2 : (cQ p.types (aC (dG p k (v : Int))) cs 80).2.1 = 0) :
  (cQ p.types (aC p) cs 80).1.read = (cQ p.types (aC (dG p k (v : Int))) cs 80).1.read ∧ (cQ p.types (aC p) cs 80).1.cells.length = (cQ p.types (aC (dG p k (v : Int))) cs 80).1.cells.length ∧
   (rI (cQ p.types (aC p) cs 80).1.cells).length = 0 ∧ (rI (cQ p.types (aC (dG p k (v : Int))) cs 80).1.cells).length = 0 := by
 have w := WG.of_valid hv
 have A := WA.of_valid hv
 have w' : WG p.types (aC (dG p k (v : Int))) := WG.of_valid hvQ
 have A' : WA p.types (aC (dG p k (v : Int))) := WA.of_valid hvQ
 have hat : (dG p k (v : Int)).body[k]! = mC (v : Int) := KZ hk
 have hlt : k < (dG p k (v : Int)).body.length := by show k < (fF k (mC (v : Int)) p.body).length;rw [oE]; omega
 have hop : (dG p k (v : Int)).body[k]!.op ≠ 9 ∧ (dG p k (v : Int)).body[k]!.op ≠ 10 := by rw [hat]; exact ⟨by show (8 : Int) ≠ 9;decide, by show (8 : Int) ≠ 10;decide⟩
 have I := Ins.of hlt hop
 have T := (Top.of hlt hop).2
 rw [hat] at T
 have e1 : A7 k (dG p k (v : Int)).body = p.body := F9 hk
 rw [e1] at I
 obtain ⟨r1, r2⟩ := I.run (X := v) w' A' w A (by rw [T]; rfl) (by rw [T]; rfl) cs 80 80 h1 h2
 exact ⟨r1, r2, Aw (A2 w A cs 80 h1).1, Aw (A2 w' A' cs 80 h2).1⟩
theorem LY (p : Prg) (hv : bB p = true) (hl : p.types.length ≤ 1000000) (hs : aP p.body ≤ 1000000) (cs : List Int) (hc : cs.length ≤ 1000000) :
  PC Tryz.prog 18 [bQ p, sl cI cs, iv 80] (fun r => r = .tup [sl cI (cQ p.types (aC p) cs 80).1.read, iv (cQ p.types (aC p) cs 80).2.1]) := by
 have h := tM p cs 80 hl hs hc
 rw [if_pos (by unfold Gp;rw [hv]; rfl)] at h
 exact h
theorem L4 (p : Prg) (hv : bB p = true) (hl : p.types.length ≤ 1000000) (hs : aP p.body ≤ 1000000) (cs : List Int) (hc : cs.length ≤ 1000000) :
  PC Tryz.prog 19 [bQ p, sl cI cs, iv 80] (fun r => r = .tup [iv (cQ p.types (aC p) cs 80).1.cells.length, iv ((cQ p.types (aC p) cs 80).1.cells.length - (rI (cQ p.types (aC p) cs 80).1.cells).length), iv (cQ p.types (aC p) cs 80).2.1]) := by
 have h := zI p cs 80 hl hs hc
 rw [if_pos (by unfold Gp;rw [hv]; rfl)] at h
 exact h
theorem Ag (bs ms : List UInt8) : PC Tryz.prog 3 [sl cU bs, sl cU ms] (fun r => r = bv true) := by
 rcases Nat.lt_or_ge 1048576 bs.length with hb|hb
 ·refine aB Tryz.func3 Tryz.ntmps3 ?_
  repeat' (first|refine aD ?_|refine aE ?_|(refine bU ?_ ?_ <;> intro hg hq <;> try (exfalso;omega))|fail)
  all_goals exact aF rfl ⟨rfl, rfl⟩
 rcases Nat.lt_or_ge 1048576 ms.length with hm|hm
 ·refine aB Tryz.func3 Tryz.ntmps3 ?_
  repeat' (first|refine aD ?_|refine aE ?_|(refine aM ?_ ?_ <;> intro hc hq <;> try (exfalso;omega))|(refine bU ?_ ?_ <;> intro hg hq <;> try (exfalso;omega))|fail)
  all_goals exact aF rfl ⟨rfl, rfl⟩
 refine aB Tryz.func3 Tryz.ntmps3 ?_
 repeat' (first|(apply aI;first|(apply gF (k := 13);rfl;exact EO bs hb;exact Pur.pf;rfl;(rintro _ ⟨p, k, v, rfl, hq1, hq2⟩ _))|(with_reducible apply a7 (d := 40)))|refine aD ?_|refine aE ?_|(refine aM ?_ ?_ <;> intro hc hq <;> try (exfalso;omega))|(refine bU ?_ ?_ <;> intro hg hq <;> try (exfalso;omega))|fail)
 refine cK ?_
 have v0 := tI ⟨[], []⟩ (by simp [aP]) (by simp)
 cases hv : bB p with
 | false =>
  have h1 := Lt p k v hv (by omega) (by omega)
  have h2 := KI p k v hv (by omega) (by omega)
  unfold Gu at h1 h2
  repeat' (first|(apply aI;first|(apply aA (k := 14);rfl;exact h1;exact Pur.pf;rfl)|(apply aA (k := 15);rfl;exact h2;exact Pur.pf;rfl)|(apply aA (k := 16);rfl;exact v0;(rfl);rfl))|refine aD ?_|refine aE ?_|fail)
  all_goals first
   | exact aF rfl ⟨rfl, rfl⟩
   | (exfalso;exact (by assumption : ¬ True) trivial)
 | true =>
  have w := WG.of_valid hv
  obtain ⟨t1, t2, t3⟩ := mB hv
  have htl := eG t1
  obtain ⟨f⟩ := Flows.ex w
  have h1 := Nq p k v hv f
  have h2 := NW p k v hv f
  unfold Gu at h1 h2
  cases hR : iC p f k v with
  | none =>
   rw [hR] at h1 h2
   repeat' (first|(apply aI;first|(apply aA (k := 14);rfl;exact h1;exact Pur.pf;rfl)|(apply aA (k := 15);rfl;exact h2;exact Pur.pf;rfl)|(apply aA (k := 16);rfl;exact v0;(rfl);rfl))|refine aD ?_|refine aE ?_|fail)
   all_goals first
    | exact aF rfl ⟨rfl, rfl⟩
    | (exfalso;exact (by assumption : ¬ True) trivial)
  | some Q =>
   rw [hR] at h1 h2
   obtain ⟨k0, kl, y0, yl, rfl, hvQ, hNQ⟩ := Ge t1 hR
   clear hR
   obtain ⟨k, rfl⟩ : ∃ j : Nat, k = j := ⟨k.toNat, by omega⟩
   obtain ⟨v, rfl⟩ : ∃ j : Nat, v = j := ⟨v.toNat, by omega⟩
   rw [Int.toNat_natCast] at h1 h2 hvQ hNQ
   dsimp only [Option.getD, Option.isSome] at h1 h2
   have hci := uO p.body k (v : Int)
   have hsQ : aP (dG p k (v : Int)).body ≤ 1000000 := by show aP (fF k (mC (v : Int)) p.body) ≤ _; omega
   have hlQ : (dG p k (v : Int)).types.length ≤ 1000000 := by show p.types.length ≤ _; omega
   have v1 := tI (dG p k (v : Int)) hsQ hlQ
   have a1 := HU (dG p k (v : Int)) hlQ hsQ
   have eA : pU (dG p k (v : Int)) = true := by
    unfold pU
    rw [hvQ, Bool.true_and]
    exact @decide_eq_true _ (Classical.propDecidable _) hNQ
   rw [eA] at a1
   repeat' (first|(apply aI;first|(apply aA (k := 14);rfl;exact h1;exact Pur.pf;rfl)|(apply aA (k := 15);rfl;exact h2;exact Pur.pf;rfl)|(apply aA (k := 16);rfl;exact v1;exact Pur.pf;rfl)|(apply gF (k := 17);rfl;exact ER ms hm;exact Pur.pf;rfl;(rintro _ ⟨q', cs, n', rfl, hr1, hr2, hr3, hr4, hr5⟩ _))|(with_reducible apply a7 (d := 81)))|refine aD ?_|refine aE ?_|fail)
   refine cK ?_
   have lw := JX p k v hv (by omega) hvQ cs
   have n1 := LY p hv (by omega) (by omega) cs (by omega)
   have n2 := LY (dG p k (v : Int)) hvQ hlQ hsQ cs (by omega)
   have m1 := L4 p hv (by omega) (by omega) cs (by omega)
   have m2 := L4 (dG p k (v : Int)) hvQ hlQ hsQ cs (by omega)
   change PC _ _ _ (fun r => r = .tup [sl cI (cQ p.types (aC (dG p k (v : Int))) cs 80).1.read, iv (cQ p.types (aC (dG p k (v : Int))) cs 80).2.1]) at n2
   change PC _ _ _ (fun r => r = .tup [iv (cQ p.types (aC (dG p k (v : Int))) cs 80).1.cells.length, iv ((cQ p.types (aC (dG p k (v : Int))) cs 80).1.cells.length - (rI (cQ p.types (aC (dG p k (v : Int))) cs 80).1.cells).length), iv (cQ p.types (aC (dG p k (v : Int))) cs 80).2.1]) at m2
   have hrd : (cQ p.types (aC p) cs 80).1.read.length ≤ 1000000 := Nat.le_trans (n5 (by decide)) (by decide)
   have v2 := G9 (cQ p.types (aC p) cs 80).1.read hrd
   generalize (cQ p.types (aC p) cs 80).1.read = rd at *
   generalize (cQ p.types (aC p) cs 80).2.1 = en at *
   generalize (cQ p.types (aC p) cs 80).1.cells = ce at *
   generalize (cQ p.types (aC (dG p k (v : Int))) cs 80).1.read = rd2 at *
   generalize (cQ p.types (aC (dG p k (v : Int))) cs 80).2.1 = en2 at *
   generalize (cQ p.types (aC (dG p k (v : Int))) cs 80).1.cells = ce2 at *
   generalize hal1 : (rI ce).length = al1 at *
   generalize hal2 : (rI ce2).length = al2 at *
   by_cases h00 : en = 0 ∧ en2 = 0
   ·obtain ⟨rfl, rfl⟩ := h00
    obtain ⟨rfl, hce, rfl, rfl⟩ := lw rfl rfl
    rw [← hce] at m2
    repeat' (first|(apply aI;first|(apply aA (k := 18);rfl;(first|exact n1|exact n2);exact Pur.pf;rfl)|(apply aA (k := 19);rfl;(first|exact m1|exact m2);exact Pur.pf;rfl)|(apply aA (k := 20);rfl;exact a1;exact Pur.pf;rfl)|(apply aA (k := 21);rfl;exact v2;exact Pur.pf;rfl))|refine aD ?_|refine aE ?_|(refine bU ?_ ?_ <;> intro hg hq <;> try (exfalso;omega))|fail)
    all_goals first
     | exact aF rfl ⟨rfl, rfl⟩
     | (exfalso;exact (by assumption : ¬ True) trivial)
     | (refine aF rfl ⟨?_, rfl⟩; simp only [aQ, decide_true])
   ·clear lw
    repeat' (first|(apply aI;first|(apply aA (k := 18);rfl;(first|exact n1|exact n2);exact Pur.pf;rfl)|(apply aA (k := 19);rfl;(first|exact m1|exact m2);exact Pur.pf;rfl)|(apply aA (k := 20);rfl;exact a1;exact Pur.pf;rfl))|refine aD ?_|refine aE ?_|(refine bU ?_ ?_ <;> intro hg hq <;> try (exfalso;omega))|fail)
    all_goals first
     | exact aF rfl ⟨rfl, rfl⟩
     | (exfalso;exact (by assumption : ¬ True) trivial)
     | (refine aF rfl ⟨?_, rfl⟩; simp only [aQ, decide_true])
end Go.Proofs.YtahdccneecdmmaaGreat
