/-
 A part of the proofs over this program: rules and contracts of its functions (the contracts).
-/
import Derived.Test.YtjnhlgpbojggnaaGreatDoorS2B06
import Derived.Deep.LoopGhost
set_option linter.unusedVariables false
set_option linter.unusedSimpArgs false
set_option maxHeartbeats 8000000
set_option maxRecDepth 4000
attribute [local irreducible] Go.AL.RW Go.AL.AW Go.AL.Stop
namespace Go.Proofs.YtjnhlgpbojggnaaGreatDoor
open Go Go.AL Go.RowKit
theorem ScI.start (W:World) (L:List ByteArray):ScI 63 5 9 W W.heap.size (W.heap.size + 1) (W.heap.size + 2) L ⟨[],[]⟩ []
  (((W.alloc (Obj.cells #[Value.slice none 0 0,Value.slice none 0 0] 60)).alloc (Obj.cells #[Value.pointer none,Value.slice none 0 0] 63)).alloc (Obj.cells (List.map Value.string L).toArray 9)) := by
 generalize hA : (Obj.cells #[Value.slice none 0 0,Value.slice none 0 0] 60) = A
 generalize hB : (Obj.cells #[Value.pointer none,Value.slice none 0 0] 63) = B
 generalize hC : (Obj.cells (List.map Value.string L).toArray 9) = C
 have s1 : (W.alloc A).heap.size = W.heap.size + 1 := by simp
 have s2 : ((W.alloc A).alloc B).heap.size = W.heap.size + 2 := by simp
 have hx : (((W.alloc A).alloc B).alloc C).heap[W.heap.size]? = some A := by
  rw [Below.heap_alloc _ _ _ (by omega),Below.heap_alloc _ _ _ (by omega)]; exact World.alloc_heap_new W A
 have ho : (((W.alloc A).alloc B).alloc C).heap[W.heap.size + 1]? = some B := by
  rw [Below.heap_alloc _ _ _ (by omega),← s1]; exact World.alloc_heap_new _ B
 have hl : (((W.alloc A).alloc B).alloc C).heap[W.heap.size + 2]? = some C := by
  rw [← s2]; exact World.alloc_heap_new _ C
 subst hA hB hC
 have hv : ∀ q, Xb (W.heap.size + 1) (((W.alloc (Obj.cells #[Value.slice none 0 0, Value.slice none 0 0] 60)).alloc (Obj.cells #[Value.pointer none, Value.slice none 0 0] 63)).alloc (Obj.cells (List.map Value.string L).toArray 9)) q → q = W.heap.size + 1 := by
  rintro q (h | ⟨v,h1,h2⟩)
  ·exact h
  ·rw [Lib.cell_of_heap ho] at h1
   injection h1 with h1
   subst h1
   cases h2
 refine ⟨(((Below.refl _ W).alloc (Nat.le_refl _) _).alloc (by omega) _).alloc (by omega) _,Nat.le_refl _,Nat.le_succ _,by omega,by omega,by omega,.inl ⟨Nat.le_succ _,_,ho,World.ownsRowF_nil _ _ _ _,by simp [Value.ownBlock]⟩,hl,fun h => by have := hv _ h;omega,fun h => by have := hv _ h;omega,⟨_,_,hx,Nat.le_refl _,?_⟩⟩
 have h0 : ∀ o, o < 2 → (((W.alloc (Obj.cells #[Value.slice none 0 0, Value.slice none 0 0] 60)).alloc (Obj.cells #[Value.pointer none, Value.slice none 0 0] 63)).alloc (Obj.cells (List.map Value.string L).toArray 9)).cell? ⟨W.heap.size, o, none⟩ = some (.slice none 0 0) := fun o h => by
  rw [Lib.cell_of_heap hx]
  match o,h with
  | 0,_ => rfl
  | 1,_ => rfl
 simp only [RdC]
 exact ⟨⟨_,h0 0 (by decide),rfl,by show Rd _ _ _ (.imm 0 []) _; simp only [Rd]; exact ⟨none,0,rfl,.inl trivial⟩⟩,⟨_,h0 1 (by decide),rfl,by show Rd _ _ _ (.imm 0 []) _; simp only [Rd]; exact ⟨none,0,rfl,.inl trivial⟩⟩,trivial⟩
theorem runScript_raw (s:ByteArray) (L:List ByteArray) (W:World) (hs:s.size ≤ 20000)
 (pF : Nat → Prg) (oF : Nat → List UInt8) (h0 : pF 0 = ⟨[],[]⟩) (h00 : oF 0 = []) (hL : L.length ≤ 200) (hO : ∀ k,k < L.length → L[k]! ≠ ⟨#[]⟩ → (oF k).length ≤ 40000) (hO3 : ∀ k,k ≤ L.length → (oF k).length ≤ 100000000)
 (hstep : ∀ k, k < L.length → (L[k]! = ⟨#[]⟩ → pF (k + 1) = pF k ∧ oF (k + 1) = oF k) ∧ (L[k]! ≠ ⟨#[]⟩ → ∃ t : ByteArray, oF (k + 1) = oF k ++ t.data.toList ∧
  MC Tryz.prog 47 [.optr 0 0,sv L[k]!] [(0,some [sl cI (pF k).types,sl cStmt (pF k).body])] 1 (fun _ : Unit => True) (fun _ => sv t) (fun _ => [(0,some [sl cI (pF (k + 1)).types,sl cStmt (pF (k + 1)).body])])))
 (hsplit : ∀ w,Calls Tryz.prog 43 #[.string s,.string ⟨#[10]⟩] w fun e w' => e = .returned (.slice (some ⟨w.heap.size,0,none⟩) L.length L.length) ∧ w' = w.alloc (.cells (L.map Value.string).toArray 9)) :
 Calls Tryz.prog 13 #[.string s] W fun e w' => e = .returned (.string ⟨(oF L.length).toArray⟩) ∧ Below W.heap.size W w' := by
 have e20 : ∀ args w,(callFunc 42 args).run Tryz.prog w = .ok (.enter 42 args) w := enters_of Tryz.func42 (by kernel_rfl) rfl
 have e21 : ∀ args w,(callFunc 43 args).run Tryz.prog w = .ok (.enter 43 args) w := enters_of Tryz.func43 (by kernel_rfl) rfl
 have e22 : ∀ args w,(callFunc 44 args).run Tryz.prog w = .ok (.enter 44 args) w := enters_of Tryz.func44 (by kernel_rfl) rfl
 have e23 : ∀ args w,(callFunc 45 args).run Tryz.prog w = .ok (.enter 45 args) w := enters_of Tryz.func45 (by kernel_rfl) rfl
 have e24 : ∀ args w,(callFunc 46 args).run Tryz.prog w = .ok (.enter 46 args) w := enters_of Tryz.func46 (by kernel_rfl) rfl
 have e25 : ∀ args w,(callFunc 47 args).run Tryz.prog w = .ok (.enter 47 args) w := enters_of Tryz.func47 (by kernel_rfl) rfl
 have hs1 : ¬ ((s.size : Int) > 20000) := by omega
 have hs2 : ¬ ((20000 : Int) < (s.size : Int)) := by omega
 have mixed : Tryz.prog.follows .mixedOrders = true := by kernel_rfl
 go_enter Tryz.func13,Tryz.ntmps13
 go_wp2_with (go_at_fn 43;refine (hsplit _).mono ?_; rintro e w' ⟨rfl,hw⟩; rw [hw])
 have I0 := ScI.start W L
 go_loopg [16] L.length (fun g s16 wr => ∃ k : Nat,s16 = .int .i64 k ∧ k ≤ L.length ∧ g = L.length - k ∧ ScI 63 5 9 W W.heap.size (W.heap.size + 1) (W.heap.size + 2) L (pF k) (oF k) wr)
 case atStart => exact ⟨0,rfl,Nat.zero_le _,rfl,by rw [h0,h00]; exact I0⟩
 case round =>
  obtain ⟨k,rfl,hk,rfl,I⟩ := hrel
  by_cases hlt : k < L.length
  ·have hlz : (k : Int) < (L.length : Int) := by omega
   have hlen' := hO k hlt
   have h200 : ¬ ((k : Int) ≥ 200) := by omega
   have h201 : ¬ (200 ≤ (k : Int)) := by omega
   obtain ⟨hst1,hst2⟩ := hstep k hlt
   have hget : L[k]? = some L[k]! := by rw [List.getElem?_eq_getElem hlt,getB _ _ hlt]
   generalize L[k]! = x at hst1 hst2 hget hlen'
   have hc : wr.cell? ⟨W.heap.size + 2,k,none⟩ = some (.string x) := by rw [Lib.cell_of_heap I.ln,List.getElem?_toArray,List.getElem?_map,hget]; rfl
   by_cases he : x = ⟨#[]⟩
   ·have hE : x.toList.isEmpty = true := by rw [he, Lib.toList_data]; rfl
    have hE2 : (x == ⟨#[]⟩) = true := by rw [he]; rfl
    obtain ⟨hp,ho⟩ := hst1 he
    go_wp2
    go_roundg (L.length - (k + 1))
    case measure => omega
    case rel => exact ⟨k + 1,rfl,by omega,by omega,by rw [hp,ho]; exact I⟩
   ·have hE : x.toList.isEmpty = false := by
     rw [Lib.toList_data]
     cases hx : x.data.toList with
     | nil => exact absurd (by cases x with|mk d => cases d with|mk l => simp at hx;rw [hx]) he
     | cons _ _ => rfl
    have hlen : (oF k).length ≤ 40000 := hlen' he
    have h400 : ¬ (((oF k).length : Int) > 40000) := by omega
    have h401 : ¬ (40000 < ((oF k).length : Int)) := by omega
    obtain ⟨t,ho,hdo⟩ := hst2 he
    go_wp2_with (first|(go_at_fn 44;refine (Tryz.Builder_Len_f W.heap.size (W.heap.size + 1) _ _ I.bd).mono ?_; rintro e w1 ⟨rfl,rfl⟩; rw [Lib.byteCells_length])|(go_at_fn 47;refine (I.do hdo).mono ?_; rintro e w2 ⟨rfl,I2⟩))
    have hO2 := hO3 (k + 1) (by omega)
    rw [ho,List.length_append] at hO2
    have ht : t.data.toList.length = t.size := by rw [Array.length_toList]; rfl
    refine (ScI.write (P := Tryz.prog) (ρ := Tryz.lays156_ren) { Tryz.lays156 with } Tryz.Builder_Extra_156 I2 t (by omega)).mono ?_
    rintro e w3 ⟨rfl,I3⟩
    go_wp2
    go_roundg (L.length - (k + 1))
    case measure => omega
    case rel => exact ⟨k + 1,rfl,by omega,by omega,by rw [ho]; exact I3⟩
  ·have hlz : ¬ ((k : Int) < (L.length : Int)) := by omega
   obtain rfl : k = L.length := by omega
   go_wp2_with (go_at_fn 45;refine (Tryz.Builder_String_any_f W.heap.size (W.heap.size + 1) (oF L.length) _ I.bd I.bw.size).mono ?_; rintro e w1 ⟨rfl,hw1⟩)
   go_ret
   exact ⟨rfl,I.bw.trans hw1.2⟩
def lns (s : ByteArray) : List ByteArray := Lib.splitB ⟨#[10]⟩ 0 (Lib.countB s ⟨#[10]⟩) s
theorem runScript_c (s:ByteArray) (hs:s.size ≤ 20000) (pF:Nat → Prg) (oF:Nat → List UInt8) (h0:pF 0 = ⟨[],[]⟩) (h00:oF 0 = []) (hL:(lns s).length ≤ 200) (hO:∀ k,k < (lns s).length → (lns s)[k]! ≠ ⟨#[]⟩ → (oF k).length ≤ 40000) (hO3:∀ k,k ≤ (lns s).length → (oF k).length ≤ 100000000)
  (hstep : ∀ k, k < (lns s).length → ((lns s)[k]! = ⟨#[]⟩ → pF (k + 1) = pF k ∧ oF (k + 1) = oF k) ∧ ((lns s)[k]! ≠ ⟨#[]⟩ → ∃ t : ByteArray, oF (k + 1) = oF k ++ t.data.toList ∧
   MC Tryz.prog 47 [.optr 0 0,sv (lns s)[k]!] [(0,some [sl cI (pF k).types,sl cStmt (pF k).body])] 1 (fun _ : Unit => True) (fun _ => sv t) (fun _ => [(0,some [sl cI (pF (k + 1)).types,sl cStmt (pF (k + 1)).body])]))) :
  PC Tryz.prog 13 [sv s] (fun r => r = sv ⟨(oF (lns s).length).toArray⟩) := by
 refine pc_of_calls fun w bad ι vals hv => ?_
 simp only [RdV,Rd] at hv
 obtain ⟨y,l,rfl,rfl,rfl⟩ := hv
 refine (runScript_raw s (lns s) w hs pF oF h0 h00 hL hO hO3 hstep (fun w' => Split_one Tryz.lays146 (by kernel_rfl) s 10 w' (by omega))).mono ?_
 rintro e w' ⟨rfl,hb⟩
 exact ⟨_,sv _,rfl,rfl,rfl,fun _ _ _ => by simp only [Rd],hb⟩
def DoC (p : Prg) (s t : List UInt8) (q : Prg) : Prop :=
 MC Tryz.prog 47 [.optr 0 0,sv (bA s)] [(0,some [sl cI p.types,sl cStmt p.body])] 1 (fun _ : Unit => True) (fun _ => sv (bA t)) (fun _ => [(0,some [sl cI q.types,sl cStmt q.body])])
theorem lns2 {a b:List UInt8}(ha:(10:UInt8) ∉ a) (hb:(10:UInt8) ∉ b):lns (bA (a ++ 10 :: (b ++ [10]))) = [bA a,bA b,⟨#[]⟩]:=by
 unfold lns
 rw [splitB_of]
 show (Lib.split (a ++ 10 :: (b ++ [10])) [10]).map _ = _
 rw [split2 ha hb]; rfl
theorem bA_ne {l:List UInt8}(h:l ≠ []):bA l ≠ ⟨#[]⟩ := fun e => h (bA_inj (m := []) e)
theorem script2L_c {a b t u:List UInt8}{p q:Prg}(ha:(10:UInt8) ∉ a) (hb:(10:UInt8) ∉ b) (na:a ≠ []) (nb:b ≠ []) (h1:DoC ⟨[],[]⟩ a t p) (h2:DoC p b u q) (hl:a.length + b.length ≤ 10000) (ht:t.length ≤ 40000) (hu:u.length ≤ 50000000) :
  PC Tryz.prog 13 [sv (bA (a ++ 10 :: (b ++ [10])))] (fun r => r = sv (bA (t ++ u))) := by
 have hL := lns2 ha hb
 have h := runScript_c (bA (a ++ 10 :: (b ++ [10]))) (by rw [bA_size]; simp only [List.length_append, List.length_cons, List.length_nil]; omega) (fun k => match k with | 0 => ⟨[], []⟩ | 1 => p | _ => q) (fun k => match k with | 0 => [] | 1 => t | _ => t ++ u) rfl rfl (by rw [hL]; simp)
  (fun k hk hne => by
   rw [hL] at hk hne
   match k,hk,hne with
   | 0,_,_ => exact Nat.zero_le _
   | 1,_,_ => exact ht
   | 2,_,hne => exact absurd rfl hne
   | _ + 3,hk,_ => simp at hk;omega)
  (fun k _ => by
   match k with
   | 0 => exact Nat.zero_le _
   | 1 => show t.length ≤ _; omega
   | _ + 2 => show (t ++ u).length ≤ _; rw [List.length_append]; omega)
  (fun k hk => by
   rw [hL] at hk ⊢
   match k,hk with
   | 0,_ => exact ⟨fun e => absurd e (bA_ne na),fun _ => ⟨bA t,by simp [bA_data],h1⟩⟩
   | 1,_ => exact ⟨fun e => absurd e (bA_ne nb),fun _ => ⟨bA u,by simp [bA_data],h2⟩⟩
   | 2,_ => exact ⟨fun _ => ⟨rfl,rfl⟩,fun e => absurd rfl e⟩
   | _ + 3,hk => simp at hk;omega)
 rw [hL] at h
 exact h
theorem script2_c {a b t u:List UInt8}{p q:Prg}(ha:(10:UInt8) ∉ a) (hb:(10:UInt8) ∉ b) (na:a ≠ []) (nb:b ≠ []) (h1:DoC ⟨[],[]⟩ a t p) (h2:DoC p b u q) (hl:a.length + b.length ≤ 10000) (ht:t.length + u.length ≤ 40000) :
  PC Tryz.prog 13 [sv (bA (a ++ 10 :: (b ++ [10])))] (fun r => r = sv (bA (t ++ u))) := script2L_c ha hb na nb h1 h2 hl (by omega) (by omega)
end Go.Proofs.YtjnhlgpbojggnaaGreatDoor
namespace Go.Proofs.YtjnhlgpbojggnaaGreatDoor
open Go.AL Go.RowKit
variable {N : Nat} {Q : Exit → AS → Prop} {all : Array Oper} {rest : List Oper} {tsl : List (Nat × AV)} {hsl : List (Nat × Option (List AV))} {nidl : Nat} {z0 : Lo} {md : Md} {d : Nat} {ty : TypeId} {pos : String} {af : Array Edge} {tys : Array TypeId}
theorem sb_lt {l m:List UInt8}{b:Bool}(h:(l == m) = b):sbin .eql (bA l) (bA m) = some (.bool b) := by simp only [sbin,bA_toList,h]
theorem line_c (l:List UInt8) (h:l.length ≤ 1000000):PC Tryz.prog 42 [sv (bA l)] (fun r => r = sv (bA (l ++ [10]))):=by
 have z := bA_size l
 refine pc_start Tryz.func42 Tryz.ntmps42 ?_
 repeat' (first|(apply id_rw;(apply rx_sbin;rfl;rfl;(exact sadd_ok (by (simp only [ByteArray.size_append,bsz_lit,List.length_cons,List.length_nil,letF_size,decF_size,bytF_size] <;> omega)));rfl))|refine stpb ?_|fail)
 exact rq_ret rfl ⟨congrArg sv (bA_app l [10]),rfl⟩
theorem rx_xch {p q:Prg}{x0 x1 x2:Operand}{i0:Nat}(ha0:ev (lk tsl) x0 = some (.optr i0 0)) (ha1:ev (lk tsl) x1 = some (aPrg q)) (ha2:ev (lk tsl) x2 = some (bv true)) (hH0:lkH hsl i0 = some ([sl cI p.types,sl cStmt p.body])) (hmc:MC Tryz.prog 84 [.optr 0 0,aPrg q,bv true] [(0,some ([sl cI p.types,sl cStmt p.body]))] 1 (fun _:Unit => True) (fun _ => sv (bA [111,107,10])) (fun _ => [(0,some ([sl cI q.types,sl cStmt q.body]))])) (hM:Nat.ble (nidl + 0) big = true) (hN:Nat.blt d N = true){md':Md}[hmd:MdA md (rOs [x0,x1,x2] ++ [.inr i0]) (List.map Sum.inr (List.map Prod.fst ([(i0,some ([sl cI q.types,sl cStmt q.body]))]:List (Nat × Option (List AV)))) ++ [.inl d]) md'] (kk:RW Tryz.prog N all Q md' rest ⟨(d,sv (bA [111,107,10])) :: tsl,wrH hsl [(i0,some ([sl cI q.types,sl cStmt q.body]))],nidl + 0,z0⟩):RW Tryz.prog N all Q md (⟨some d,.call ⟨.value (.func 84),#[x0,x1,x2],tys⟩,ty,pos,af,none⟩ :: rest) ⟨tsl,hsl,nidl,z0⟩:=by
 exact rx_mcallA (l := [x0,x1,x2]) [i0] 1 [(i0,some ([sl cI q.types,sl cStmt q.body]))] hmc (avs := [.optr i0 0,aPrg q,bv true]) (by simp only [evL,ha0,ha1,ha2]) rfl hM hN (md' := md') (hmd := hmd) kk
theorem xch_c (p q:Prg):MC Tryz.prog 84 [.optr 0 0,aPrg q,bv true] [(0,some ([sl cI p.types,sl cStmt p.body]))] 1 (fun _:Unit => True) (fun _ => sv (bA [111,107,10])) (fun _ => [(0,some ([sl cI q.types,sl cStmt q.body]))]):=by
 have hl := line_c [111,107] (by decide)
 refine mc_start Tryz.func84 Tryz.ntmps84 ?_
 repeat' (first|(apply id_rw;first|(apply rx_store;rfl;rfl;rfl;rfl;rfl;(case hl => (simp;done));exact (rfl:_=[_,_]))|(apply rx_callE (k := 42);rfl;exact hl;(rfl);rfl))|refine stpb ?_|fail)
 (refine rq_ret rfl ?_; refine mc_ret () trivial ?_ ⟨sE ?_,trivial⟩)
 ·rfl
 ·rfl
theorem rx_xrun {w s t:List UInt8}{p q:Prg}{x0 x1 x2:Operand}{i0:Nat}(ha0:ev (lk tsl) x0 = some (.optr i0 0)) (ha1:ev (lk tsl) x1 = some (sv (bA w))) (ha2:ev (lk tsl) x2 = some (sv (bA s))) (hH0:lkH hsl i0 = some ([sl cI p.types,sl cStmt p.body])) (hmc:MC Tryz.prog 85 [.optr 0 0,sv (bA w),sv (bA s)] [(0,some ([sl cI p.types,sl cStmt p.body]))] 1 (fun _:Unit => True) (fun _ => sv (bA t)) (fun _ => [(0,some ([sl cI q.types,sl cStmt q.body]))])) (hM:Nat.ble (nidl + 0) big = true) (hN:Nat.blt d N = true){md':Md}[hmd:MdA md (rOs [x0,x1,x2] ++ [.inr i0]) (List.map Sum.inr (List.map Prod.fst ([(i0,some ([sl cI q.types,sl cStmt q.body]))]:List (Nat × Option (List AV)))) ++ [.inl d]) md'] (kk:RW Tryz.prog N all Q md' rest ⟨(d,sv (bA t)) :: tsl,wrH hsl [(i0,some ([sl cI q.types,sl cStmt q.body]))],nidl + 0,z0⟩):RW Tryz.prog N all Q md (⟨some d,.call ⟨.value (.func 85),#[x0,x1,x2],tys⟩,ty,pos,af,none⟩ :: rest) ⟨tsl,hsl,nidl,z0⟩:=by
 exact rx_mcallA (l := [x0,x1,x2]) [i0] 1 [(i0,some ([sl cI q.types,sl cStmt q.body]))] hmc (avs := [.optr i0 0,sv (bA w),sv (bA s)]) (by simp only [evL,ha0,ha1,ha2]) rfl hM hN (md' := md') (hmd := hmd) kk
theorem doProg_c (p0 p:Prg) (hv:validF p = true):DoC p0 ([112,114,111,103,114,97,109] ++ 32 :: tP p) [111,107,10] p:=by
 have hc := cutH_c [112,114,111,103,114,97,109] (tP p) 32 (by decide) (by have := tP_size hv;simp only [List.length_cons,List.length_nil]; omega)
 have hp := parse_c p hv
 have hx := xch_c p0 p
 unfold DoC
 refine mc_start Tryz.func47 Tryz.ntmps47 ?_
 repeat' (first|(apply id_rw;first|(apply rx_store;rfl;rfl;rfl;rfl;rfl;(case hl => (simp;done));exact (rfl:_=[_,_]))|(apply rx_sbin;rfl;rfl;(exact sb_lt (b := true) (by decide));rfl)|(apply rx_callE (k := 81);rfl;exact hc;(rfl);rfl)|(apply rx_callE (k := 83);rfl;exact hp;(rfl);rfl)|(apply rx_xch (p := p0) (q := p);rfl;rfl;rfl;rfl;exact hx;rfl;rfl))|refine stpb ?_|fail)
 (refine rq_ret rfl ?_; refine mc_ret () trivial ?_ ⟨sE ?_,trivial⟩)
 ·rfl
 ·rfl
theorem doRun_c (s t:List UInt8) (p q:Prg) (hs:s.length ≤ 10000) (h:MC Tryz.prog 85 [.optr 0 0,sv (bA [114,117,110]),sv (bA s)] [(0,some [sl cI p.types,sl cStmt p.body])] 1 (fun _:Unit => True) (fun _ => sv (bA (t))) (fun _ => [(0,some [sl cI q.types,sl cStmt q.body])])):DoC p ([114,117,110] ++ 32 :: s) t q:=by
 have hc := cutH_c [114,117,110] s 32 (by decide) (by simp only [List.length_cons,List.length_nil]; omega)
 unfold DoC
 refine mc_start Tryz.func47 Tryz.ntmps47 ?_
 repeat' (first|(apply id_rw;first|(apply rx_sbin;rfl;rfl;(first|exact sb_lt (b := false) (by decide)|exact sb_lt (b := true) (by decide));rfl)|(apply rx_callE (k := 81);rfl;exact hc;(rfl);rfl)|(apply rx_xrun (w := [114,117,110]) (s := s) (t := t) (p := p) (q := q);rfl;rfl;rfl;rfl;exact h;rfl;rfl))|refine stpb ?_|fail)
 (refine rq_ret rfl ?_; refine mc_ret () trivial ?_ ⟨sE ?_,trivial⟩)
 ·rfl
 ·rfl
theorem sb_same {a b:ByteArray}(h:a = b):sbin .eql a b = some (.bool true) := by subst h;simp [sbin]
theorem fmtP_c (p:Prg) (hv:validF p = true) (hl:p.types.length ≤ 1048576) (hs:cntL p.body ≤ 1048576):PC Tryz.prog 14 [aPrg p] (fun r => r = sv (bA (tP p))):=by
 have h1 := validI_c p hl (by omega)
 rw [hv] at h1
 have h2 := progText_c p hv
 refine pc_start Tryz.func14 Tryz.ntmps14 ?_
 repeat' (first|(apply id_rw;first|(apply rx_callE (k := 17);rfl;exact h1;exact Pur.pf;rfl)|(apply rx_callE (k := 48);rfl;exact h2;exact Pur.pf;rfl))|refine stpb ?_|fail)
 exact rq_ret rfl ⟨rfl,rfl⟩
theorem itoaB_c (n:Int) (h0:0 ≤ n) (h1:n ≤ 99):PC Tryz.prog 133 [iv n] (fun r => r = sv (bA (dB n))) := itoa_c n h0 h1
theorem numbers_c (w:List UInt8) (l:List Int) (hw:w.length ≤ 100000) (hl:l.length ≤ 10000) (hn:∀ k,k < l.length → 0 ≤ l[k]! ∧ l[k]! ≤ 99):PC Tryz.prog 126 [sv (bA w),sl cI l] (fun r => r = sv (bA (w ++ (numB l ++ [10])))):=by
 have e0 : bA w = bA (w ++ numB (l.take 0)) := by simp [numB]
 rw [e0]
 refine pc_start Tryz.func126 Tryz.ntmps126 ?_
 repeat' (first|refine stpb ?_|fail)
 refine aw_loopA (σ := Nat) [7,8] [] (fun k => [(9,iv (k : Int)),(0,sv (bA (w ++ numB (l.take k))))]) (fun k => []) (fun k => k ≤ l.length) (fun k => l.length - k) (0) (Nat.zero_le _) ?_
 intro k hk
 have z1 := bA_size (w ++ numB (l.take k))
 have z2 := numB_len (l.take k)
 rw [List.length_append] at z1
 rw [List.length_take] at z2
 by_cases hkn : k < l.length
 ·have hb := hn k hkn
  have hi := itoaB_c l[k]! hb.1 hb.2
  have z3 := dB_len l[k]!
  have z4 := bA_size (dB l[k]!)
  have e : bA (w ++ numB (l.take k)) ++ (⟨#[32]⟩ ++ bA (dB l[k]!)) = bA (w ++ numB (l.take (k + 1))) := by
   show bA (w ++ numB (l.take k)) ++ (bA [32] ++ bA (dB l[k]!)) = _
   rw [take_succB l k hkn,numB_app,numB_one,bA_app,bA_app,List.append_assoc]; rfl
  repeat' (first|(apply id_rw;first|(apply rx_callE (k := 133);rfl;exact hi;(rfl);rfl)|(apply rx_sbin;rfl;rfl;(exact sadd_ok (by (simp only [ByteArray.size_append,bsz_lit,List.length_cons,List.length_nil,letF_size,decF_size,bytF_size] <;> omega)));rfl))|refine stpb ?_|(refine stp2 ?_ ?_ <;> intro hc hq <;> try (exfalso;omega))|fail)
  rw [e]
  (refine ex3 (k + 1) (Le.renA []) ?_ ?_)
  ·exact hkn
  ·omega
 ·have hke : k = l.length := by omega
  subst hke
  rw [List.take_length]
  have hli := line_c (w ++ numB l) (by have := numB_len l;rw [List.length_append]; omega)
  repeat' (first|(apply id_rw;(apply rx_callE (k := 42);rfl;exact hli;(rfl);rfl))|refine stpb ?_|(refine stp2 ?_ ?_ <;> intro hc hq <;> try (exfalso;omega))|fail)
  refine rq_ret rfl ⟨?_,rfl⟩
  rw [← List.append_assoc]; rfl
def wdB (e : Int) : List UInt8 := if e = 0 then [100,111,110,101] else if e = 1 then [99,117,116] else if e = 2 then [117,110,115,101,116] else if e = 3 then [102,114,101,101,100] else [108,111,115,116]
def dgB (cs : List Int) : List UInt8 := cs.map fun c => b8 (48 + c)
def runT (p : Prg) (cs : List Int) : List UInt8 := wdB (runP p.types (ptsF p) cs 150).2.1 ++ (numB (((runP p.types (ptsF p) cs 150).2.2 : Int) :: (runP p.types (ptsF p) cs 150).1.read) ++ [10])
theorem app_cons1 {a:Int}{l:List Int}:([iv a].drop 0).take (1 * 1) ++ flat cI l = flat cI (a :: l):=by
 show [iv a] ++ flat cI l = _
 rw [show [iv a] = flat cI [a] from (flat_one cI a).symm,flat_append]; rfl
theorem runF_last {ts:List Int}{pts:List Pnt}:∀ (l:List Nat) (s:Mc) (last:Nat),(runF ts pts l s last).2.2 = last ∨ (runF ts pts l s last).2.2 ∈ l
 | [],_,_ => .inl rfl
 | a :: l, s, last => by
  unfold runF
  split
  ·exact .inr (List.mem_cons_self ..)
  ·split
   ·rcases runF_last l (doF ts s pts[a]!).1 a with h | h
    ·rw [h]; exact .inr (List.mem_cons_self ..)
    ·exact .inr (List.mem_cons_of_mem _ h)
   ·exact .inr (List.mem_cons_self ..)
theorem runP_bd {p:Prg}(hv:validF p = true) (cs:List Int) (n:Nat):(runP p.types (ptsF p) cs n).2.2 < (ptsF p).length ∧ ∀ z ∈ (runP p.types (ptsF p) cs n).1.read,0 ≤ z ∧ z ≤ 9:=by
 have w := WG.of_valid hv
 have wa := WA.of_valid hv
 have hp : ∀ a : Nat, PtN (ptsF p)[a]! := fun a => by
  by_cases h : a < (ptsF p).length
  ·exact ⟨fun e => (wa.a a h).n (.inr e)⟩
  ·refine ⟨fun e => ?_⟩
   rw [getB_def,dif_neg h] at e
   exact absurd e (by decide)
 refine ⟨?_,run_read hp _ _ _ (OkS.mc0 _) (by intro z hz;simp [mc0] at hz)⟩
 have hL := way_lt w wa n 0 cs w.p0
 rcases runF_last (ts := p.types) (pts := ptsF p) (wayF (ptsF p) n 0 cs).1 (mc0 p.types.length) 0 with h|h
 ·show (runF _ _ _ _ _).2.2 < _; rw [h]; exact w.p0
 ·exact hL _ h
theorem xrun_c (p:Prg) (cs:List Int) (hv:validF p = true) (hcs:∀ k,k < cs.length → cs[k]! = 0 ∨ cs[k]! = 1) (hcl:cs.length ≤ 1000):MC Tryz.prog 85 [.optr 0 0,sv (bA [114,117,110]),sv (bA (dgB cs))] [(0,some [sl cI p.types,sl cStmt p.body])] 1 (fun _:Unit => True) (fun _ => sv (bA (runT p cs))) (fun _ => [(0,some [sl cI p.types,sl cStmt p.body])]):=by
 have hv2 := hv
 simp only [validF,Bool.and_eq_true,decide_eq_true_eq] at hv2
 obtain ⟨⟨t1,t2⟩,t3⟩ := hv2
 have w := WG.of_valid hv
 have wa := WA.of_valid hv
 have hpl := w.pl
 have htl := w.tl
 have hr := runV_c p cs 150 (runP p.types (ptsF p) cs 150) rfl hv (by omega) (by omega) (by decide) (by omega)
 have hco := run_codes w wa cs 150
 have hrl := runP_readl (ts := p.types) (pts := ptsF p) (cs := cs) (n := 150) (by decide)
 have z1 := bA_size (dgB cs)
 have z2 : (dgB cs).length = cs.length := by unfold dgB;rw [List.length_map]
 unfold runT
 have hbd := runP_bd hv cs 150
 generalize runP p.types (ptsF p) cs 150 = q at *
 obtain ⟨mc,qe,qa⟩ := q
 dsimp only at *
 refine mc_start Tryz.func85 Tryz.ntmps85 ?_
 repeat' (first|refine stpb ?_|fail)
 refine AW.le ?_ (Le.nilOwn (d := 7) 1 rfl (by decide))
 refine aw_loopA (σ := Nat) [0,1,2,15] [0] (fun k => [(16,iv (k : Int)),(7,.own 1 0 k 1)]) (fun k => [(1,some (flat cI (cs.take k)))]) (fun k => k ≤ cs.length) (fun k => cs.length - k) (0) (Nat.zero_le _) ?_
 intro k hk
 have hxl : (cs.take k).length = k := by rw [List.length_take]; omega
 by_cases hkn : k < cs.length
 ·have hc := hcs k hkn
  have hg : ((bA (dgB cs))[(k : Int).toNat]!.toNat : Int) = 48 + cs[k]! := by
   rw [Int.toNat_natCast,bA_get _ _ (by omega),getB _ _ (by omega)]
   unfold dgB
   rw [List.getElem_map,← getB _ _ hkn]
   exact b8_nat (by omega)
  have htk := take_succB cs k hkn
  have ek : ((bA (dgB cs))[(k : Int).toNat]!.toNat : Int) - 48 = cs[k]! := by omega
  repeat' (first|(apply id_rw;first|(apply rx_indexS;rfl;rfl;omega;rfl)|(apply rx_subU;rfl;rfl;omega;rfl)|(apply rx_buildSliceI (t := _);rfl;rfl;rfl;exact (rfl:_=some [_]);rfl;rfl))|refine stpb ?_|(refine stp2 ?_ ?_ <;> intro hc hq <;> try (exfalso;omega))|(refine stp3 ?_ ?_ <;> intro hg hq <;> try (exfalso;omega))|fail)
  all_goals (
   rw [ek,← htk]
   (refine ex3 (k + 1) (Le.renA [(1,3)]) ?_ ?_)
   ·exact hkn
   ·omega)
 ·have hke : k = cs.length := by omega
  subst hke
  rw [List.take_length]
  repeat' (first|(apply id_rw;(with_reducible apply rw_stop (d := 39)))|refine stpb ?_|(refine stp2 ?_ ?_ <;> intro hc hq <;> try (exfalso;omega))|fail)
  refine rw_go (rw_le ?_ (Le.frzD (d := 7) (i := 1) rfl rfl))
  have hrd : ∀ j, j < ((qa : Int) :: mc.read).length → 0 ≤ ((qa : Int) :: mc.read)[j]! ∧ ((qa : Int) :: mc.read)[j]! ≤ 99 := fun j hj => by
   rw [List.length_cons] at hj
   cases j with
   | zero => show 0 ≤ (qa : Int) ∧ (qa : Int) ≤ 99;omega
   | succ j =>
    have hm := getB_mem mc.read j (by omega)
    have := hbd.2 _ hm
    show 0 ≤ mc.read[j]! ∧ mc.read[j]! ≤ 99
    omega
  have e1 : sl cI ((qa : Int) :: mc.read) = .imm (1 + mc.read.length) (flat cI ((qa : Int) :: mc.read)) := by rw [Nat.add_comm]; rfl
  rcases hco with rfl|rfl|rfl|rfl|rfl
  ·have hnu := numbers_c (wdB 0) ((qa : Int) :: mc.read) (by decide) (by rw [List.length_cons]; omega) hrd
   rw [e1] at hnu
   repeat' (first|(apply id_rw;first|(apply rx_sbin;rfl;rfl;(exact sb_lt (b := false) (by decide));rfl)|(apply rx_runV (p := p) (cs := cs) (n := 150) (q := (mc,_,qa));rfl;rfl;rfl;exact hr;rfl;rfl)|(with_reducible apply rw_stop (d := 64)))|refine stpb ?_|refine stpd ?_|fail)
   refine rw_go ?_
   dsimp only
   repeat' (first|(apply id_rw;first|(apply rx_append (d := 74);rfl;rfl;rfl;rfl;rfl;(case hl => (simp;done));exact sC_own rfl rfl;omega;omega;exact app_cons1;rfl;rfl)|(apply rx_lendE (k := 126);(case ha => rfl);(case hl => (repeat' (first|exact lendL_nil|apply lendL_cons|exact lendV_v|exact lendV_own rfl inferInstance)));(case h => exact hnu);(case hfr|hN => rfl);(case hmd => infer_instance)))|refine stpb ?_|fail)
   (refine rq_ret rfl ?_; refine mc_ret () trivial ?_ ⟨sE ?_,trivial⟩)
   ·rfl
   ·rfl
  ·have hnu := numbers_c (wdB 1) ((qa : Int) :: mc.read) (by decide) (by rw [List.length_cons]; omega) hrd
   rw [e1] at hnu
   repeat' (first|(apply id_rw;first|(apply rx_sbin;rfl;rfl;(exact sb_lt (b := false) (by decide));rfl)|(apply rx_runV (p := p) (cs := cs) (n := 150) (q := (mc,_,qa));rfl;rfl;rfl;exact hr;rfl;rfl)|(with_reducible apply rw_stop (d := 64)))|refine stpb ?_|refine stpd ?_|fail)
   refine rw_go ?_
   dsimp only
   repeat' (first|(apply id_rw;first|(apply rx_append (d := 74);rfl;rfl;rfl;rfl;rfl;(case hl => (simp;done));exact sC_own rfl rfl;omega;omega;exact app_cons1;rfl;rfl)|(apply rx_lendE (k := 126);(case ha => rfl);(case hl => (repeat' (first|exact lendL_nil|apply lendL_cons|exact lendV_v|exact lendV_own rfl inferInstance)));(case h => exact hnu);(case hfr|hN => rfl);(case hmd => infer_instance)))|refine stpb ?_|fail)
   (refine rq_ret rfl ?_; refine mc_ret () trivial ?_ ⟨sE ?_,trivial⟩)
   ·rfl
   ·rfl
  ·have hnu := numbers_c (wdB 2) ((qa : Int) :: mc.read) (by decide) (by rw [List.length_cons]; omega) hrd
   rw [e1] at hnu
   repeat' (first|(apply id_rw;first|(apply rx_sbin;rfl;rfl;(exact sb_lt (b := false) (by decide));rfl)|(apply rx_runV (p := p) (cs := cs) (n := 150) (q := (mc,_,qa));rfl;rfl;rfl;exact hr;rfl;rfl)|(with_reducible apply rw_stop (d := 64)))|refine stpb ?_|refine stpd ?_|fail)
   refine rw_go ?_
   dsimp only
   repeat' (first|(apply id_rw;first|(apply rx_append (d := 74);rfl;rfl;rfl;rfl;rfl;(case hl => (simp;done));exact sC_own rfl rfl;omega;omega;exact app_cons1;rfl;rfl)|(apply rx_lendE (k := 126);(case ha => rfl);(case hl => (repeat' (first|exact lendL_nil|apply lendL_cons|exact lendV_v|exact lendV_own rfl inferInstance)));(case h => exact hnu);(case hfr|hN => rfl);(case hmd => infer_instance)))|refine stpb ?_|fail)
   (refine rq_ret rfl ?_; refine mc_ret () trivial ?_ ⟨sE ?_,trivial⟩)
   ·rfl
   ·rfl
  ·have hnu := numbers_c (wdB 3) ((qa : Int) :: mc.read) (by decide) (by rw [List.length_cons]; omega) hrd
   rw [e1] at hnu
   repeat' (first|(apply id_rw;first|(apply rx_sbin;rfl;rfl;(exact sb_lt (b := false) (by decide));rfl)|(apply rx_runV (p := p) (cs := cs) (n := 150) (q := (mc,_,qa));rfl;rfl;rfl;exact hr;rfl;rfl)|(with_reducible apply rw_stop (d := 64)))|refine stpb ?_|refine stpd ?_|fail)
   refine rw_go ?_
   dsimp only
   repeat' (first|(apply id_rw;first|(apply rx_append (d := 74);rfl;rfl;rfl;rfl;rfl;(case hl => (simp;done));exact sC_own rfl rfl;omega;omega;exact app_cons1;rfl;rfl)|(apply rx_lendE (k := 126);(case ha => rfl);(case hl => (repeat' (first|exact lendL_nil|apply lendL_cons|exact lendV_v|exact lendV_own rfl inferInstance)));(case h => exact hnu);(case hfr|hN => rfl);(case hmd => infer_instance)))|refine stpb ?_|fail)
   (refine rq_ret rfl ?_; refine mc_ret () trivial ?_ ⟨sE ?_,trivial⟩)
   ·rfl
   ·rfl
  ·have hnu := numbers_c (wdB 4) ((qa : Int) :: mc.read) (by decide) (by rw [List.length_cons]; omega) hrd
   rw [e1] at hnu
   repeat' (first|(apply id_rw;first|(apply rx_sbin;rfl;rfl;(exact sb_lt (b := false) (by decide));rfl)|(apply rx_runV (p := p) (cs := cs) (n := 150) (q := (mc,_,qa));rfl;rfl;rfl;exact hr;rfl;rfl)|(with_reducible apply rw_stop (d := 64)))|refine stpb ?_|refine stpd ?_|fail)
   refine rw_go ?_
   dsimp only
   repeat' (first|(apply id_rw;first|(apply rx_append (d := 74);rfl;rfl;rfl;rfl;rfl;(case hl => (simp;done));exact sC_own rfl rfl;omega;omega;exact app_cons1;rfl;rfl)|(apply rx_lendE (k := 126);(case ha => rfl);(case hl => (repeat' (first|exact lendL_nil|apply lendL_cons|exact lendV_v|exact lendV_own rfl inferInstance)));(case h => exact hnu);(case hfr|hN => rfl);(case hmd => infer_instance)))|refine stpb ?_|fail)
   (refine rq_ret rfl ?_; refine mc_ret () trivial ?_ ⟨sE ?_,trivial⟩)
   ·rfl
   ·rfl
theorem dgB_10 {cs:List Int}(h:∀ k,k < cs.length → cs[k]! = 0 ∨ cs[k]! = 1):(10:UInt8) ∉ dgB cs:=by
 unfold dgB
 simp only [List.mem_map,not_exists,not_and]
 intro c hc e
 obtain ⟨j,hj,rfl⟩ := List.getElem_of_mem hc
 have := h j hj
 rw [getB _ _ hj] at this
 exact b8_10 (n := 48 + cs[j]) (by omega) e.symm
theorem scRun_c (p:Prg) (cs:List Int) (hv:validF p = true) (hcs:∀ k,k < cs.length → cs[k]! = 0 ∨ cs[k]! = 1) (hcl:cs.length ≤ 1000):PC Tryz.prog 13 [sv ((((⟨#[112,114,111,103,114,97,109,32]⟩ ++ bA (tP p)) ++ ⟨#[10,114,117,110,32]⟩) ++ bA (dgB cs)) ++ ⟨#[10]⟩)] (fun r => r = sv (bA ([111,107,10] ++ runT p cs))):=by
 have hz := tP_size hv
 have w := WG.of_valid hv
 have hrl := runP_readl (ts := p.types) (pts := ptsF p) (cs := cs) (n := 150) (by decide)
 have hnl := numB_len (((runP p.types (ptsF p) cs 150).2.2 : Int) :: (runP p.types (ptsF p) cs 150).1.read)
 rw [List.length_cons] at hnl
 have hwl : (wdB (runP p.types (ptsF p) cs 150).2.1).length ≤ 5 := by unfold wdB;(repeat' split) <;> decide
 have hrt : (runT p cs).length ≤ 1000 := by unfold runT;simp only [List.length_append,List.length_cons,List.length_nil]; omega
 have z2 : (dgB cs).length = cs.length := by unfold dgB;rw [List.length_map]
 have h1 := doProg_c ⟨[],[]⟩ p hv
 have h2 := doRun_c (dgB cs) (runT p cs) p p (by omega) (xrun_c p cs hv hcs hcl)
 have h := script2_c (a := [112,114,111,103,114,97,109] ++ 32 :: tP p) (b := [114,117,110] ++ 32 :: dgB cs) (by simp [tP_no10 hv]) (by simp [dgB_10 hcs]) (by simp) (by simp) h1 h2 (by simp only [List.length_append,List.length_cons,List.length_nil]; omega) (by simp only [List.length_cons,List.length_nil]; omega)
 have e : ((((⟨#[112, 114, 111, 103, 114, 97, 109, 32]⟩ : ByteArray) ++ bA (tP p)) ++ ⟨#[10, 114, 117, 110, 32]⟩) ++ bA (dgB cs)) ++ ⟨#[10]⟩ = bA (([112, 114, 111, 103, 114, 97, 109] ++ 32 :: tP p) ++ 10 :: (([114, 117, 110] ++ 32 :: dgB cs) ++ [10])) := by
  show (((bA [112,114,111,103,114,97,109,32] ++ bA (tP p)) ++ bA [10,114,117,110,32]) ++ bA (dgB cs)) ++ bA [10] = _
  rw [bA_app,bA_app,bA_app,bA_app]; simp
 rw [e]; exact h
theorem bA_mid (a b c:List UInt8):(bA (a ++ (b ++ c))).extract a.length (a.length + b.length) = bA b:=by
 apply bA_ext
 rw [ByteArray.data_extract,Array.toList_extract]
 show ((a ++ (b ++ c)).drop a.length).take (a.length + b.length - a.length) = b
 rw [List.drop_left,show a.length + b.length - a.length = b.length by omega,List.take_left]
def c01 (c : Int) : Int := if Int.tmod c 2 = 0 then 0 else 1
theorem c01_at (cs:List Int):∀ k,k < (cs.map c01).length → (cs.map c01)[k]! = 0 ∨ (cs.map c01)[k]! = 1:=by
 intro k hk
 rw [getB _ _ hk,List.getElem_map]
 unfold c01;split
 ·exact .inl rfl
 ·exact .inr rfl
theorem FnScriptRun_c (bs:List UInt8):PC Tryz.prog 7 [sl cU bs] (fun r => r = bv true):=by
 rcases Nat.lt_or_ge 1048576 bs.length with hb|hb
 ·refine pc_start Tryz.func7 Tryz.ntmps7 ?_
  repeat' (first|refine stpb ?_|(refine stp2 ?_ ?_ <;> intro hc hq <;> try (exfalso;omega))|fail)
  exact rq_ret rfl ⟨rfl,rfl⟩
 refine pc_start Tryz.func7 Tryz.ntmps7 ?_
 repeat' (first|(apply id_rw;first|(apply rx_call (k := 25);rfl;exact drawRun_c bs hb;exact Pur.pf;rfl;(rintro _ ⟨p,cs,n,rfl,hq1,hq2,hq3,hq4,hq5⟩ _))|(with_reducible apply rw_stop (d := 28)))|refine stpb ?_|(refine stp2 ?_ ?_ <;> intro hc hq <;> try (exfalso;omega))|fail)
 refine rw_go ?_
 have h0 := validI_c p (by omega) (by omega)
 have h1 := runI_e p cs n (by omega) (by omega) (by omega)
 have h2 := runS_e p cs n (by omega) (by omega) (by omega)
 cases hv : validF p with
 | false =>
  rw [hv] at h0
  generalize reE p cs n = e at *
  generalize reA p cs n = a at *
  repeat' (first|(apply id_rw;first|(apply rx_callE (k := 26);rfl;exact h1;exact Pur.pf;rfl)|(apply rx_callE (k := 27);rfl;exact h2;exact Pur.pf;rfl)|(apply rx_callE (k := 17);rfl;exact h0;exact Pur.pf;rfl))|refine stpb ?_|(refine stp3 ?_ ?_ <;> intro hg hq <;> try (exfalso;omega))|fail)
  all_goals first
   | (exfalso;exact (by assumption : ¬ True) trivial)
   | (refine rq_ret rfl ⟨?_,rfl⟩; simp only [oneOf,decide_true]; done)
   | exact rq_ret rfl ⟨rfl,rfl⟩
 | true =>
  rw [hv] at h0
  obtain ⟨L,hL⟩ : ∃ L,L = cs.map c01 := ⟨_,rfl⟩
  have hLl : L.length = cs.length := by rw [hL,List.length_map]
  have hL01 : ∀ k,k < L.length → L[k]! = 0 ∨ L[k]! = 1 := by rw [hL]; exact c01_at cs
  have h3 := runI_e p L 150 (by omega) (by omega) (by omega)
  have h4 := fmtP_c p hv (by omega) (by omega)
  have h5 := scRun_c p L hv hL01 (by omega)
  have w := WG.of_valid hv
  have wa := WA.of_valid hv
  have hco := run_codes w wa L 150
  have hrg : rgF p 150 = true := rgF_true.2 ⟨hv,by decide,by decide⟩
  have eE : reE p L 150 = (runP p.types (ptsF p) L 150).2.1 := if_pos hrg
  have hz := tP_size hv
  have z1 := bA_size (tP p)
  have z2 : (dgB L).length = cs.length := by unfold dgB;rw [List.length_map,hLl]
  have z3 := bA_size (dgB L)
  obtain ⟨X,hX⟩ : ∃ X,runT p L = wdB (runP p.types (ptsF p) L 150).2.1 ++ (X ++ [10]) := ⟨_,rfl⟩
  rw [eE] at h3
  rw [hX] at h5
  have e1 : sl cI L = .imm cs.length (flat cI L) := by rw [← hLl]
  rw [e1] at h3
  generalize (runP p.types (ptsF p) L 150).2.1 = ee at *
  generalize reE p cs n = e at *
  generalize reA p cs n = a at *
  generalize reA p L 150 = a2 at *
  repeat' (first|(apply id_rw;first|(apply rx_callE (k := 26);rfl;exact h1;exact Pur.pf;rfl)|(apply rx_callE (k := 27);rfl;exact h2;exact Pur.pf;rfl)|(apply rx_callE (k := 17);rfl;exact h0;exact Pur.pf;rfl))|refine stpb ?_|(refine stp3 ?_ ?_ <;> intro hg hq <;> try (exfalso;omega))|fail)
  all_goals try exact absurd trivial (by assumption : ¬ True)
  refine aw_loopA (σ := Nat) [3,4] [0] (fun k => [(12,iv (k : Int)),(11,.own 1 0 k 1),(10,sv (bA (dgB (L.take k))))]) (fun k => [(1,some (flat cI (L.take k)))]) (fun k => k ≤ cs.length) (fun k => cs.length - k) (0) (Nat.zero_le _) ?_
  intro k hk
  have hxl : (L.take k).length = k := by rw [List.length_take]; omega
  by_cases hkn : k < cs.length
  ·have htk := take_succB L k (by omega)
   have hLk : L[k]! = if Int.tmod cs[k]! 2 = 0 then 0 else 1 := by
    rw [hL,getB _ _ (by rw [List.length_map]; exact hkn),List.getElem_map,getB _ _ hkn]; rfl
   have z4 : (bA (dgB (L.take k))).size = k := by rw [bA_size]; unfold dgB;rw [List.length_map,hxl]
   have edg : ∀ c : Int, L[k]! = c → bA (dgB (L.take k)) ++ bytF .empty [48 + c] = bA (dgB (L.take (k + 1))) := fun c hc => by
    show bA (dgB (L.take k)) ++ bA [b8 (48 + c)] = _
    rw [bA_app,htk,hc]; unfold dgB;rw [List.map_append]; rfl
   by_cases hm : Int.tmod cs[k]! 2 = 0
   ·rw [if_pos hm] at hLk
    repeat' (first|(apply id_rw;first|(apply rx_sbin;rfl;rfl;(exact sadd_ok (by (simp only [ByteArray.size_append,bsz_lit,List.length_cons,List.length_nil,letF_size,decF_size,bytF_size] <;> omega)));rfl)|(apply rx_addU;rfl;rfl;omega;rfl)|(apply rx_b2s (ns := [_]);rfl;rfl;rfl)|(apply rx_convU;rfl;omega;rfl)|(apply rx_buildSliceI (t := _);rfl;rfl;rfl;exact (rfl:_=some [_]);rfl;rfl))|refine stpb ?_|(refine stp2 ?_ ?_ <;> intro hc hq <;> try (exfalso;omega))|fail)
    rw [edg _ (hLk.trans hm.symm),show List.take k L ++ [Int.tmod cs[k]! 2] = List.take (k + 1) L from by rw [htk,hLk,hm]]
    (refine ex3 (k + 1) (Le.renA [(0,0),(1,3)]) ?_ ?_)
    ·exact hkn
    ·omega
   ·rw [if_neg hm] at hLk
    repeat' (first|(apply id_rw;first|(apply rx_sbin;rfl;rfl;(exact sadd_ok (by (simp only [ByteArray.size_append,bsz_lit,List.length_cons,List.length_nil,letF_size,decF_size,bytF_size] <;> omega)));rfl)|(apply rx_addU;rfl;rfl;omega;rfl)|(apply rx_b2s (ns := [_]);rfl;rfl;rfl)|(apply rx_convU;rfl;omega;rfl)|(apply rx_buildSliceI (t := _);rfl;rfl;rfl;exact (rfl:_=some [_]);rfl;rfl))|refine stpb ?_|(refine stp2 ?_ ?_ <;> intro hc hq <;> try (exfalso;omega))|fail)
    rw [edg 1 hLk,show List.take k L ++ [(1 : Int)] = List.take (k + 1) L from by rw [htk,hLk]]
    (refine ex3 (k + 1) (Le.renA [(0,0),(1,3)]) ?_ ?_)
    ·exact hkn
    ·omega
  ·have hke : k = cs.length := by omega
   subst hke
   have etk : L.take cs.length = L := by rw [← hLl,List.take_length]
   rw [etk]
   rcases hco with rfl|rfl|rfl|rfl|rfl
   ·have hm := bA_mid [111, 107, 10] [100, 111, 110, 101] (X ++ [10])
    have z5 := bA_size ([111,107,10] ++ (wdB 0 ++ (X ++ [10])))
    rw [show wdB 0 = [100,111,110,101] from rfl] at h5 z5
    simp only [List.length_append,List.length_cons,List.length_nil] at z5
    have z6 : (⟨#[100,111,110,101]⟩ : ByteArray).size = 4 := rfl
    repeat' (first|(apply id_rw;first|(apply rx_sbin (d := 118);rfl;rfl;exact sb_same hm;rfl)|(apply rx_lendE (k := 26);(case ha => rfl);(case hl => (repeat' (first|exact lendL_nil|apply lendL_cons|exact lendV_v|exact lendV_own rfl inferInstance|exact lendV_agg inferInstance)));(case h => exact h3);(case hfr|hN => rfl);(case hmd => infer_instance))|(apply rx_callE (k := 14);rfl;exact h4;exact Pur.pf;rfl)|(apply rx_callE (k := 13);rfl;exact h5;(rfl);rfl)|(apply rx_sbin;rfl;rfl;(exact sadd_ok (by (simp only [ByteArray.size_append,bsz_lit,List.length_cons,List.length_nil,letF_size,decF_size,bytF_size] <;> omega)));rfl)|(apply rx_sliceS;rfl;(exact bnd_pos rfl (by omega));(exact bnd_pos rfl (by omega));omega;rfl))|refine stpb ?_|(refine stp2 ?_ ?_ <;> intro hc hq <;> try (exfalso;omega))|(refine stp3 ?_ ?_ <;> intro hg hq <;> try (exfalso;omega))|fail)
    all_goals exact rq_ret rfl ⟨rfl,rfl⟩
   ·have hm := bA_mid [111, 107, 10] [99, 117, 116] (X ++ [10])
    have z5 := bA_size ([111,107,10] ++ (wdB 1 ++ (X ++ [10])))
    rw [show wdB 1 = [99,117,116] from rfl] at h5 z5
    simp only [List.length_append,List.length_cons,List.length_nil] at z5
    have z6 : (⟨#[99,117,116]⟩ : ByteArray).size = 3 := rfl
    repeat' (first|(apply id_rw;first|(apply rx_sbin (d := 118);rfl;rfl;exact sb_same hm;rfl)|(apply rx_lendE (k := 26);(case ha => rfl);(case hl => (repeat' (first|exact lendL_nil|apply lendL_cons|exact lendV_v|exact lendV_own rfl inferInstance|exact lendV_agg inferInstance)));(case h => exact h3);(case hfr|hN => rfl);(case hmd => infer_instance))|(apply rx_callE (k := 14);rfl;exact h4;exact Pur.pf;rfl)|(apply rx_callE (k := 13);rfl;exact h5;(rfl);rfl)|(apply rx_sbin;rfl;rfl;(exact sadd_ok (by (simp only [ByteArray.size_append,bsz_lit,List.length_cons,List.length_nil,letF_size,decF_size,bytF_size] <;> omega)));rfl)|(apply rx_sliceS;rfl;(exact bnd_pos rfl (by omega));(exact bnd_pos rfl (by omega));omega;rfl))|refine stpb ?_|(refine stp2 ?_ ?_ <;> intro hc hq <;> try (exfalso;omega))|(refine stp3 ?_ ?_ <;> intro hg hq <;> try (exfalso;omega))|fail)
    all_goals exact rq_ret rfl ⟨rfl,rfl⟩
   ·have hm := bA_mid [111, 107, 10] [117, 110, 115, 101, 116] (X ++ [10])
    have z5 := bA_size ([111,107,10] ++ (wdB 2 ++ (X ++ [10])))
    rw [show wdB 2 = [117,110,115,101,116] from rfl] at h5 z5
    simp only [List.length_append,List.length_cons,List.length_nil] at z5
    have z6 : (⟨#[117,110,115,101,116]⟩ : ByteArray).size = 5 := rfl
    repeat' (first|(apply id_rw;first|(apply rx_sbin (d := 118);rfl;rfl;exact sb_same hm;rfl)|(apply rx_lendE (k := 26);(case ha => rfl);(case hl => (repeat' (first|exact lendL_nil|apply lendL_cons|exact lendV_v|exact lendV_own rfl inferInstance|exact lendV_agg inferInstance)));(case h => exact h3);(case hfr|hN => rfl);(case hmd => infer_instance))|(apply rx_callE (k := 14);rfl;exact h4;exact Pur.pf;rfl)|(apply rx_callE (k := 13);rfl;exact h5;(rfl);rfl)|(apply rx_sbin;rfl;rfl;(exact sadd_ok (by (simp only [ByteArray.size_append,bsz_lit,List.length_cons,List.length_nil,letF_size,decF_size,bytF_size] <;> omega)));rfl)|(apply rx_sliceS;rfl;(exact bnd_pos rfl (by omega));(exact bnd_pos rfl (by omega));omega;rfl))|refine stpb ?_|(refine stp2 ?_ ?_ <;> intro hc hq <;> try (exfalso;omega))|(refine stp3 ?_ ?_ <;> intro hg hq <;> try (exfalso;omega))|fail)
    all_goals exact rq_ret rfl ⟨rfl,rfl⟩
   ·have hm := bA_mid [111, 107, 10] [102, 114, 101, 101, 100] (X ++ [10])
    have z5 := bA_size ([111,107,10] ++ (wdB 3 ++ (X ++ [10])))
    rw [show wdB 3 = [102,114,101,101,100] from rfl] at h5 z5
    simp only [List.length_append,List.length_cons,List.length_nil] at z5
    have z6 : (⟨#[102,114,101,101,100]⟩ : ByteArray).size = 5 := rfl
    repeat' (first|(apply id_rw;first|(apply rx_sbin (d := 118);rfl;rfl;exact sb_same hm;rfl)|(apply rx_lendE (k := 26);(case ha => rfl);(case hl => (repeat' (first|exact lendL_nil|apply lendL_cons|exact lendV_v|exact lendV_own rfl inferInstance|exact lendV_agg inferInstance)));(case h => exact h3);(case hfr|hN => rfl);(case hmd => infer_instance))|(apply rx_callE (k := 14);rfl;exact h4;exact Pur.pf;rfl)|(apply rx_callE (k := 13);rfl;exact h5;(rfl);rfl)|(apply rx_sbin;rfl;rfl;(exact sadd_ok (by (simp only [ByteArray.size_append,bsz_lit,List.length_cons,List.length_nil,letF_size,decF_size,bytF_size] <;> omega)));rfl)|(apply rx_sliceS;rfl;(exact bnd_pos rfl (by omega));(exact bnd_pos rfl (by omega));omega;rfl))|refine stpb ?_|(refine stp2 ?_ ?_ <;> intro hc hq <;> try (exfalso;omega))|(refine stp3 ?_ ?_ <;> intro hg hq <;> try (exfalso;omega))|fail)
    all_goals exact rq_ret rfl ⟨rfl,rfl⟩
   ·have hm := bA_mid [111, 107, 10] [108, 111, 115, 116] (X ++ [10])
    have z5 := bA_size ([111,107,10] ++ (wdB 4 ++ (X ++ [10])))
    rw [show wdB 4 = [108,111,115,116] from rfl] at h5 z5
    simp only [List.length_append,List.length_cons,List.length_nil] at z5
    have z6 : (⟨#[108,111,115,116]⟩ : ByteArray).size = 4 := rfl
    repeat' (first|(apply id_rw;first|(apply rx_sbin (d := 118);rfl;rfl;exact sb_same hm;rfl)|(apply rx_lendE (k := 26);(case ha => rfl);(case hl => (repeat' (first|exact lendL_nil|apply lendL_cons|exact lendV_v|exact lendV_own rfl inferInstance|exact lendV_agg inferInstance)));(case h => exact h3);(case hfr|hN => rfl);(case hmd => infer_instance))|(apply rx_callE (k := 14);rfl;exact h4;exact Pur.pf;rfl)|(apply rx_callE (k := 13);rfl;exact h5;(rfl);rfl)|(apply rx_sbin;rfl;rfl;(exact sadd_ok (by (simp only [ByteArray.size_append,bsz_lit,List.length_cons,List.length_nil,letF_size,decF_size,bytF_size] <;> omega)));rfl)|(apply rx_sliceS;rfl;(exact bnd_pos rfl (by omega));(exact bnd_pos rfl (by omega));omega;rfl))|refine stpb ?_|(refine stp2 ?_ ?_ <;> intro hc hq <;> try (exfalso;omega))|(refine stp3 ?_ ?_ <;> intro hg hq <;> try (exfalso;omega))|fail)
    all_goals exact rq_ret rfl ⟨rfl,rfl⟩
end Go.Proofs.YtjnhlgpbojggnaaGreatDoor
