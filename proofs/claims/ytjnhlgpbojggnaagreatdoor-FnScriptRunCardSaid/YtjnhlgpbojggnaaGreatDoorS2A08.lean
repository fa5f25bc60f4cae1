/-
 A part of the proofs over this program: rules and contracts of its functions (the rules).
-/
import Derived.Test.YtjnhlgpbojggnaaGreatDoorS2A07
import Derived.Shelf.Strings.Builder1
import Derived.Shelf.Strings.Builder2
import Derived.Shelf.Strings.OnBuilder
import Derived.Shelf.Small.Strs
import Derived.Shelf.Small.Wraps
import Derived.Shelf.Strings.BuilderF
import Derived.Shelf.Strings.BuilderK
import Derived.Shelf.Strings.Search1
import Derived.Shelf.Strings.Search2
import Derived.Shelf.Strings.Search3
import Derived.Shelf.Strings.Cut
import Derived.Shelf.Strings.Count
import Derived.Shelf.LaysM
import Derived.Shelf.Strings.Shaped
import Derived.Shelf.Strings.Prefix
import Derived.Shelf.Strings.Split
import Derived.Shelf.Unicode.DecodeSlow
import Derived.Test.YtjnhlgpbojggnaaGreatDoorProg
import Derived.Lib.MinMax
set_option linter.unusedVariables false
set_option linter.unusedSimpArgs false
namespace Go.Proofs
open Go.Shelf Go.RowKit Go.Lib
def Tryz.lays170_ren : Go.Shelf.Ren := ⟨fun | 170 => 44 | n => n,fun | 70 => 61 | 3 => 3 | 0 => 0 | 72 => 63 | 37 => 22 | 5 => 5 | n => n,fun | n => n⟩
theorem Tryz.lays170:Go.Proofs.Lays.n170 Tryz.prog Tryz.lays170_ren := {
 mixed := by kernel_rfl
 f170 := Tryz.func44.trans (congrArg some (by kernel_rfl))
 t0 := Tryz.underlying0
 a0 := Tryz.isAgg0
 z0 := Tryz.sizeOf0
 v0 := Tryz.zeroValue0
 t3 := Tryz.underlying3
 a3 := Tryz.isAgg3
 z3 := Tryz.sizeOf3
 v3 := Tryz.zeroValue3
 t37 := Tryz.underlying22
 a37 := Tryz.isAgg22
 z37 := Tryz.sizeOf22
 v37 := Tryz.zeroValue22
 t70 := Tryz.underlying61
 a70 := Tryz.isAgg61
 z70 := Tryz.sizeOf61
 v70 := Tryz.zeroValue61
 t72 := Tryz.underlying63
 a72 := Tryz.isAgg63
 z72 := Tryz.sizeOf63
 v72 := Tryz.zeroValue63 }
def Tryz.lays169_ren : Go.Shelf.Ren := ⟨fun | 169 => 45 | n => n,fun | 70 => 61 | 9 => 9 | 0 => 0 | 72 => 63 | 37 => 22 | 127 => 108 | 3 => 3 | 5 => 5 | n => n,fun | n => n⟩
theorem Tryz.lays169:Go.Proofs.Lays.n169 Tryz.prog Tryz.lays169_ren := {
 mixed := by kernel_rfl
 f169 := Tryz.func45.trans (congrArg some (by kernel_rfl))
 t0 := Tryz.underlying0
 a0 := Tryz.isAgg0
 z0 := Tryz.sizeOf0
 v0 := Tryz.zeroValue0
 t3 := Tryz.underlying3
 a3 := Tryz.isAgg3
 z3 := Tryz.sizeOf3
 v3 := Tryz.zeroValue3
 t9 := Tryz.underlying9
 a9 := Tryz.isAgg9
 z9 := Tryz.sizeOf9
 v9 := Tryz.zeroValue9
 t37 := Tryz.underlying22
 a37 := Tryz.isAgg22
 z37 := Tryz.sizeOf22
 v37 := Tryz.zeroValue22
 t70 := Tryz.underlying61
 a70 := Tryz.isAgg61
 z70 := Tryz.sizeOf61
 v70 := Tryz.zeroValue61
 t72 := Tryz.underlying63
 a72 := Tryz.isAgg63
 z72 := Tryz.sizeOf63
 v72 := Tryz.zeroValue63
 t127 := Tryz.underlying108
 a127 := Tryz.isAgg108
 z127 := Tryz.sizeOf108
 v127 := Tryz.zeroValue108 }
theorem Tryz.Builder_Extra_169:Builder.Extra Tryz.prog Tryz.lays169_ren := {
 sizeBuilder := by kernel_rfl
 liesBuilder := by kernel_rfl
 t5 := Tryz.underlying5
 a5 := Tryz.isAgg5
 z5 := Tryz.sizeOf5
 v5 := Tryz.zeroValue5
 infoByte := by kernel_rfl
 cellsByte := by kernel_rfl
 sizeByte := by kernel_rfl
 neB5 := by decide }
def Tryz.lays156_ren : Go.Shelf.Ren := ⟨fun | 156 => 139 | 165 => 204 | 166 => 46 | 169 => 45 | 240 => 80 | 241 => 263 | 276 => 119 | 277 => 299 | n => n,fun | 31 => 46 | 9 => 9 | 3 => 3 | 4 => 4 | 0 => 0 | 20 => 20 | 72 => 63 | 76 => 68 | 70 => 61 | 37 => 22 | 75 => 67 | 127 => 108 | 164 => 151 | 5 => 5 | 80 => 65 | n => n,fun | n => n⟩
theorem Tryz.lays156:Go.Proofs.Lays.n156 Tryz.prog Tryz.lays156_ren := {
 mixed := by kernel_rfl
 f156 := Tryz.func139.trans (congrArg some (by kernel_rfl))
 f165 := Tryz.func204.trans (congrArg some (by kernel_rfl))
 f166 := Tryz.func46.trans (congrArg some (by kernel_rfl))
 f169 := Tryz.func45.trans (congrArg some (by kernel_rfl))
 f240 := Tryz.func80.trans (congrArg some (by kernel_rfl))
 f241 := Tryz.func263.trans (congrArg some (by kernel_rfl))
 f276 := Tryz.func119.trans (congrArg some (by kernel_rfl))
 f277 := Tryz.func299.trans (congrArg some (by kernel_rfl))
 t0 := Tryz.underlying0
 a0 := Tryz.isAgg0
 z0 := Tryz.sizeOf0
 v0 := Tryz.zeroValue0
 t3 := Tryz.underlying3
 a3 := Tryz.isAgg3
 z3 := Tryz.sizeOf3
 v3 := Tryz.zeroValue3
 t4 := Tryz.underlying4
 a4 := Tryz.isAgg4
 z4 := Tryz.sizeOf4
 v4 := Tryz.zeroValue4
 t9 := Tryz.underlying9
 a9 := Tryz.isAgg9
 z9 := Tryz.sizeOf9
 v9 := Tryz.zeroValue9
 t20 := Tryz.underlying20
 a20 := Tryz.isAgg20
 z20 := Tryz.sizeOf20
 v20 := Tryz.zeroValue20
 t31 := Tryz.underlying46
 a31 := Tryz.isAgg46
 z31 := Tryz.sizeOf46
 v31 := Tryz.zeroValue46
 t37 := Tryz.underlying22
 a37 := Tryz.isAgg22
 z37 := Tryz.sizeOf22
 v37 := Tryz.zeroValue22
 t70 := Tryz.underlying61
 a70 := Tryz.isAgg61
 z70 := Tryz.sizeOf61
 v70 := Tryz.zeroValue61
 t72 := Tryz.underlying63
 a72 := Tryz.isAgg63
 z72 := Tryz.sizeOf63
 v72 := Tryz.zeroValue63
 t75 := Tryz.underlying67
 a75 := Tryz.isAgg67
 z75 := Tryz.sizeOf67
 v75 := Tryz.zeroValue67
 t76 := Tryz.underlying68
 a76 := Tryz.isAgg68
 z76 := Tryz.sizeOf68
 v76 := Tryz.zeroValue68
 t127 := Tryz.underlying108
 a127 := Tryz.isAgg108
 z127 := Tryz.sizeOf108
 v127 := Tryz.zeroValue108
 t164 := Tryz.underlying151
 a164 := Tryz.isAgg151
 z164 := Tryz.sizeOf151
 v164 := Tryz.zeroValue151 }
theorem Tryz.Builder_Extra_156:Builder.Extra Tryz.prog Tryz.lays156_ren := {
 sizeBuilder := by kernel_rfl
 liesBuilder := by kernel_rfl
 t5 := Tryz.underlying5
 a5 := Tryz.isAgg5
 z5 := Tryz.sizeOf5
 v5 := Tryz.zeroValue5
 infoByte := by kernel_rfl
 cellsByte := by kernel_rfl
 sizeByte := by kernel_rfl
 neB5 := by decide }
theorem Tryz.strings_Join_none (a:Option Addr) (c:Nat) (sep:ByteArray) (w:World) :
  Calls Tryz.prog 139 #[.slice a 0 c,.string sep] w fun e w' => e = .returned (.string ⟨#[]⟩) ∧ w' = w := Any.strings_Join_none Tryz.lays156 Tryz.Builder_Extra_156 a c sep w
theorem Tryz.strings_Join (bk o c:Nat) (xs:List ByteArray) (sep:ByteArray) (w:World) (hcells:∀ (j:Nat) x,xs[j]? = some x → w.cell? ⟨bk,o + j,none⟩ = some (.string x)) (hbk:bk < w.heap.size) (hN:xs.length ≤ 140737488355328) (hcap:xs.length ≤ c) (hlen:(Lib.join (xs.map (·.data.toList)) sep.data.toList).length ≤ 140737488355328) :
  Calls Tryz.prog 139 #[.slice (some ⟨bk,o,none⟩) xs.length c,.string sep] w fun e w' => e = .returned (.string ⟨(Lib.join (xs.map (·.data.toList)) sep.data.toList).toArray⟩) ∧ Below w.heap.size w w' := Any.strings_Join Tryz.lays156 Tryz.Builder_Extra_156 bk o c xs sep w hcells hbk hN hcap hlen
def Tryz.lays137_ren : Go.Shelf.Ren := ⟨fun | 137 => 127 | 217 => 192 | 266 => 253 | n => n,fun | 9 => 9 | 5 => 5 | 3 => 3 | n => n,fun | n => n⟩
theorem Tryz.lays137:Go.Proofs.Lays.n137 Tryz.prog Tryz.lays137_ren := {
 mixed := by kernel_rfl
 f137 := Tryz.func127.trans (congrArg some (by kernel_rfl))
 f217 := Tryz.func192.trans (congrArg some (by kernel_rfl))
 f266 := Tryz.func253.trans (congrArg some (by kernel_rfl))
 t3 := Tryz.underlying3
 a3 := Tryz.isAgg3
 z3 := Tryz.sizeOf3
 v3 := Tryz.zeroValue3
 t5 := Tryz.underlying5
 a5 := Tryz.isAgg5
 z5 := Tryz.sizeOf5
 v5 := Tryz.zeroValue5
 t9 := Tryz.underlying9
 a9 := Tryz.isAgg9
 z9 := Tryz.sizeOf9
 v9 := Tryz.zeroValue9 }
theorem Tryz.strings_IndexByte (s:ByteArray) (c:Int) (w:World) :
  Calls Tryz.prog 127 #[.string s,.int .u8 c] w fun e w' => e = .returned (.int .i64 (Lib.indexByte s.data.toList c.toNat.toUInt8)) ∧ w' = w := Any.strings_IndexByte Tryz.lays137 s c w
theorem Tryz.Builder_Len_f (B b:Nat) (bs:List Value) (w:World) (h:Lib.IsBuilderF 63 5 B b bs w) :
  Calls Tryz.prog 44 #[.pointer (some ⟨b,0,none⟩)] w fun e w' => e = .returned (.int .i64 bs.length) ∧ w' = w := Any.Builder_Len_f Tryz.lays170 B b bs w h
theorem Tryz.Builder_String_any_f (B b:Nat) (l:List UInt8) (w:World) (h:Lib.IsBuilderF 63 5 B b (Lib.byteCells l) w) (hBw:B ≤ w.heap.size) :
  Calls Tryz.prog 45 #[.pointer (some ⟨b,0,none⟩)] w fun e w' => e = .returned (.string ⟨l.toArray⟩) ∧ (Lib.IsBuilderF 63 5 B b (Lib.byteCells l) w' ∧ Below B w w') := Any.Builder_String_any_f Tryz.lays169 Tryz.Builder_Extra_169 B b l w h hBw
def Tryz.lays219_ren : Go.Shelf.Ren := ⟨fun | 219 => 182 | 217 => 192 | 225 => 240 | 224 => 241 | 267 => 242 | 266 => 253 | 314 => 286 | n => n,fun | 9 => 9 | 3 => 3 | 4 => 4 | 5 => 5 | 46 => 257 | 146 => 294 | 51 => 293 | n => n,fun | 1 => 0 | n => n⟩
theorem Tryz.lays219:Go.Proofs.Lays.n219 Tryz.prog Tryz.lays219_ren := {
 mixed := by kernel_rfl
 f217 := Tryz.func192.trans (congrArg some (by kernel_rfl))
 f219 := Tryz.func182.trans (congrArg some (by kernel_rfl))
 f224 := Tryz.func241.trans (congrArg some (by kernel_rfl))
 f225 := Tryz.func240.trans (congrArg some (by kernel_rfl))
 f266 := Tryz.func253.trans (congrArg some (by kernel_rfl))
 f267 := Tryz.func242.trans (congrArg some (by kernel_rfl))
 f314 := Tryz.func286.trans (congrArg some (by kernel_rfl))
 t3 := Tryz.underlying3
 a3 := Tryz.isAgg3
 z3 := Tryz.sizeOf3
 v3 := Tryz.zeroValue3
 t4 := Tryz.underlying4
 a4 := Tryz.isAgg4
 z4 := Tryz.sizeOf4
 v4 := Tryz.zeroValue4
 t5 := Tryz.underlying5
 a5 := Tryz.isAgg5
 z5 := Tryz.sizeOf5
 v5 := Tryz.zeroValue5
 t9 := Tryz.underlying9
 a9 := Tryz.isAgg9
 z9 := Tryz.sizeOf9
 v9 := Tryz.zeroValue9
 t46 := Tryz.underlying257
 a46 := Tryz.isAgg257
 z46 := Tryz.sizeOf257
 v46 := Tryz.zeroValue257
 t51 := Tryz.underlying293
 a51 := Tryz.isAgg293
 z51 := Tryz.sizeOf293
 v51 := Tryz.zeroValue293
 t146 := Tryz.underlying294
 a146 := Tryz.isAgg294
 z146 := Tryz.sizeOf294
 v146 := Tryz.zeroValue294
 g1 := by kernel_rfl }
theorem Tryz.stringslite_Index_one (s:ByteArray) (c:UInt8) (w:World) :
  Calls Tryz.prog 182 #[.string s,.string ⟨#[c]⟩] w fun e w' => e = .returned (.int .i64 (Lib.indexByte s.data.toList c)) ∧ w' = w := Any.stringslite_Index_one Tryz.lays219 s c w
def Tryz.lays143_ren : Go.Shelf.Ren := ⟨fun | 143 => 118 | 219 => 182 | 217 => 192 | 225 => 240 | 224 => 241 | 267 => 242 | 266 => 253 | 314 => 286 | n => n,fun | 9 => 9 | 3 => 3 | 4 => 4 | 5 => 5 | 46 => 257 | 146 => 294 | 51 => 293 | n => n,fun | 1 => 0 | n => n⟩
theorem Tryz.lays143:Go.Proofs.Lays.n143 Tryz.prog Tryz.lays143_ren := {
 mixed := by kernel_rfl
 f143 := Tryz.func118.trans (congrArg some (by kernel_rfl))
 f217 := Tryz.func192.trans (congrArg some (by kernel_rfl))
 f219 := Tryz.func182.trans (congrArg some (by kernel_rfl))
 f224 := Tryz.func241.trans (congrArg some (by kernel_rfl))
 f225 := Tryz.func240.trans (congrArg some (by kernel_rfl))
 f266 := Tryz.func253.trans (congrArg some (by kernel_rfl))
 f267 := Tryz.func242.trans (congrArg some (by kernel_rfl))
 f314 := Tryz.func286.trans (congrArg some (by kernel_rfl))
 t3 := Tryz.underlying3
 a3 := Tryz.isAgg3
 z3 := Tryz.sizeOf3
 v3 := Tryz.zeroValue3
 t4 := Tryz.underlying4
 a4 := Tryz.isAgg4
 z4 := Tryz.sizeOf4
 v4 := Tryz.zeroValue4
 t5 := Tryz.underlying5
 a5 := Tryz.isAgg5
 z5 := Tryz.sizeOf5
 v5 := Tryz.zeroValue5
 t9 := Tryz.underlying9
 a9 := Tryz.isAgg9
 z9 := Tryz.sizeOf9
 v9 := Tryz.zeroValue9
 t46 := Tryz.underlying257
 a46 := Tryz.isAgg257
 z46 := Tryz.sizeOf257
 v46 := Tryz.zeroValue257
 t51 := Tryz.underlying293
 a51 := Tryz.isAgg293
 z51 := Tryz.sizeOf293
 v51 := Tryz.zeroValue293
 t146 := Tryz.underlying294
 a146 := Tryz.isAgg294
 z146 := Tryz.sizeOf294
 v146 := Tryz.zeroValue294
 g1 := by kernel_rfl }
theorem Tryz.strings_Index_one (s:ByteArray) (c:UInt8) (w:World) :
  Calls Tryz.prog 118 #[.string s,.string ⟨#[c]⟩] w fun e w' => e = .returned (.int .i64 (Lib.indexByte s.data.toList c)) ∧ w' = w := Any.strings_Index_one Tryz.lays143 s c w
def Tryz.lays138_ren : Go.Shelf.Ren := ⟨fun | 138 => 117 | 195 => 179 | 218 => 181 | 143 => 118 | 219 => 182 | 217 => 192 | 225 => 240 | 224 => 241 | 267 => 242 | 266 => 253 | 314 => 286 | n => n,fun | 9 => 9 | 3 => 3 | 4 => 4 | 5 => 5 | 0 => 0 | 46 => 257 | 146 => 294 | 51 => 293 | n => n,fun | 1 => 0 | n => n⟩
theorem Tryz.lays138:Go.Proofs.Lays.n138 Tryz.prog Tryz.lays138_ren := {
 mixed := by kernel_rfl
 f138 := Tryz.func117.trans (congrArg some (by kernel_rfl))
 f143 := Tryz.func118.trans (congrArg some (by kernel_rfl))
 f195 := Tryz.func179.trans (congrArg some (by kernel_rfl))
 f217 := Tryz.func192.trans (congrArg some (by kernel_rfl))
 f218 := Tryz.func181.trans (congrArg some (by kernel_rfl))
 f219 := Tryz.func182.trans (congrArg some (by kernel_rfl))
 f224 := Tryz.func241.trans (congrArg some (by kernel_rfl))
 f225 := Tryz.func240.trans (congrArg some (by kernel_rfl))
 f266 := Tryz.func253.trans (congrArg some (by kernel_rfl))
 f267 := Tryz.func242.trans (congrArg some (by kernel_rfl))
 f314 := Tryz.func286.trans (congrArg some (by kernel_rfl))
 t0 := Tryz.underlying0
 a0 := Tryz.isAgg0
 z0 := Tryz.sizeOf0
 v0 := Tryz.zeroValue0
 t3 := Tryz.underlying3
 a3 := Tryz.isAgg3
 z3 := Tryz.sizeOf3
 v3 := Tryz.zeroValue3
 t4 := Tryz.underlying4
 a4 := Tryz.isAgg4
 z4 := Tryz.sizeOf4
 v4 := Tryz.zeroValue4
 t5 := Tryz.underlying5
 a5 := Tryz.isAgg5
 z5 := Tryz.sizeOf5
 v5 := Tryz.zeroValue5
 t9 := Tryz.underlying9
 a9 := Tryz.isAgg9
 z9 := Tryz.sizeOf9
 v9 := Tryz.zeroValue9
 t46 := Tryz.underlying257
 a46 := Tryz.isAgg257
 z46 := Tryz.sizeOf257
 v46 := Tryz.zeroValue257
 t51 := Tryz.underlying293
 a51 := Tryz.isAgg293
 z51 := Tryz.sizeOf293
 v51 := Tryz.zeroValue293
 t146 := Tryz.underlying294
 a146 := Tryz.isAgg294
 z146 := Tryz.sizeOf294
 v146 := Tryz.zeroValue294
 g1 := by kernel_rfl }
theorem Tryz.strings_Count_one (s:ByteArray) (c:UInt8) (w:World) :
  Calls Tryz.prog 117 #[.string s,.string ⟨#[c]⟩] w fun e w' => e = .returned (.int .i64 (Lib.countByte s.data.toList c)) ∧ w' = w := Any.strings_Count_one Tryz.lays138 s c w
def Tryz.lays146_ren : Go.Shelf.Ren := ⟨fun | 146 => 43 | 221 => 79 | 268 => 116 | 138 => 117 | 143 => 118 | 195 => 179 | 197 => 180 | 218 => 181 | 219 => 182 | 260 => 239 | 217 => 192 | 225 => 240 | 224 => 241 | 267 => 242 | 266 => 253 | 314 => 286 | n => n,fun | 9 => 9 | 31 => 46 | 3 => 3 | 4 => 4 | 0 => 0 | 105 => 209 | 21 => 21 | 5 => 5 | 46 => 257 | 119 => 289 | 139 => 292 | 138 => 291 | 146 => 294 | 51 => 293 | n => n,fun | 1 => 0 | 3 => 1 | 4 => 2 | n => n⟩
theorem Tryz.lays146:Go.Proofs.Lays.n146 Tryz.prog Tryz.lays146_ren := {
 mixed := by kernel_rfl
 f138 := Tryz.func117.trans (congrArg some (by kernel_rfl))
 f143 := Tryz.func118.trans (congrArg some (by kernel_rfl))
 f146 := Tryz.func43.trans (congrArg some (by kernel_rfl))
 f195 := Tryz.func179.trans (congrArg some (by kernel_rfl))
 f197 := Tryz.func180.trans (congrArg some (by kernel_rfl))
 f217 := Tryz.func192.trans (congrArg some (by kernel_rfl))
 f218 := Tryz.func181.trans (congrArg some (by kernel_rfl))
 f219 := Tryz.func182.trans (congrArg some (by kernel_rfl))
 f221 := Tryz.func79.trans (congrArg some (by kernel_rfl))
 f224 := Tryz.func241.trans (congrArg some (by kernel_rfl))
 f225 := Tryz.func240.trans (congrArg some (by kernel_rfl))
 f260 := Tryz.func239.trans (congrArg some (by kernel_rfl))
 f266 := Tryz.func253.trans (congrArg some (by kernel_rfl))
 f267 := Tryz.func242.trans (congrArg some (by kernel_rfl))
 f268 := Tryz.func116.trans (congrArg some (by kernel_rfl))
 f314 := Tryz.func286.trans (congrArg some (by kernel_rfl))
 t0 := Tryz.underlying0
 a0 := Tryz.isAgg0
 z0 := Tryz.sizeOf0
 v0 := Tryz.zeroValue0
 t3 := Tryz.underlying3
 a3 := Tryz.isAgg3
 z3 := Tryz.sizeOf3
 v3 := Tryz.zeroValue3
 t4 := Tryz.underlying4
 a4 := Tryz.isAgg4
 z4 := Tryz.sizeOf4
 v4 := Tryz.zeroValue4
 t5 := Tryz.underlying5
 a5 := Tryz.isAgg5
 z5 := Tryz.sizeOf5
 v5 := Tryz.zeroValue5
 t9 := Tryz.underlying9
 a9 := Tryz.isAgg9
 z9 := Tryz.sizeOf9
 v9 := Tryz.zeroValue9
 t21 := Tryz.underlying21
 a21 := Tryz.isAgg21
 z21 := Tryz.sizeOf21
 v21 := Tryz.zeroValue21
 t31 := Tryz.underlying46
 a31 := Tryz.isAgg46
 z31 := Tryz.sizeOf46
 v31 := Tryz.zeroValue46
 t46 := Tryz.underlying257
 a46 := Tryz.isAgg257
 z46 := Tryz.sizeOf257
 v46 := Tryz.zeroValue257
 t51 := Tryz.underlying293
 a51 := Tryz.isAgg293
 z51 := Tryz.sizeOf293
 v51 := Tryz.zeroValue293
 t105 := Tryz.underlying209
 a105 := Tryz.isAgg209
 z105 := Tryz.sizeOf209
 v105 := Tryz.zeroValue209
 t119 := Tryz.underlying289
 a119 := Tryz.isAgg289
 z119 := Tryz.sizeOf289
 t138 := Tryz.underlying291
 a138 := Tryz.isAgg291
 z138 := Tryz.sizeOf291
 v138 := Tryz.zeroValue291
 t139 := Tryz.underlying292
 a139 := Tryz.isAgg292
 z139 := Tryz.sizeOf292
 v139 := Tryz.zeroValue292
 t146 := Tryz.underlying294
 a146 := Tryz.isAgg294
 z146 := Tryz.sizeOf294
 v146 := Tryz.zeroValue294
 g1 := by kernel_rfl
 g3 := by kernel_rfl
 g4 := by kernel_rfl }
end Go.Proofs
namespace Go.AL
open Go.RowKit
instance : FlT cS 1:=⟨fun _ => rfl⟩
theorem app_str {xs:List ByteArray}{m:Nat}{a:ByteArray}(hm:m = xs.length):((flat cS xs).drop 0).take (m * 1) ++ [sv a] = flat cS (xs ++ [a]) := app_flat hm rfl
theorem RdC_kv {w:World}{bad:Nat → Prop}{ι:Pl}:∀ {cs cs':List AV},All2 (fun c c' => c' = c ∨ c' = kAV c) cs cs' → ∀ {b β:Nat},RdC w bad ι cs b β → RdC w bad ι cs' b β
 | _,_,.nil,_,_,h => h
 | _, _, .cons h1 h2, b, β, h => by
  simp only [RdC] at h ⊢
  obtain ⟨⟨x,q1,q2,q3⟩,q4⟩ := h
  refine ⟨⟨x,q1,q2,?_⟩,RdC_kv h2 q4⟩
  rcases h1 with rfl|rfl
  ·exact q3
  ·exact Rd_kAV q3
theorem Le.stC {ts:List (Nat × AV)}{hs:List (Nat × Option (List AV))}{n i:Nat}{z0:Lo}{o x y k a b:AV}{l m:List Stmt}
  (ha : a = sl cStmt l ∨ (a = .v (.slice none 0 0) ∧ l = [])) (hb : b = sl cStmt m ∨ (b = .v (.slice none 0 0) ∧ m = []))
  (hi : lkH hs i = some [o,x,y,k,a,b]) : Le ⟨ts,hs,n,z0⟩ ⟨ts,(i,some [o,x,y,k,sl cStmt l,sl cStmt m]) :: hs,n,z0⟩ := by
 refine Le.cells hi rfl fun w bad ι b β h => RdC_kv (.cons (.inl rfl) (.cons (.inl rfl) (.cons (.inl rfl) (.cons (.inl rfl) (.cons ?_ (.cons ?_ .nil)))))) h
 ·rcases ha with h | ⟨h, h2⟩
  ·exact .inl h.symm
  ·refine .inr ?_; rw [h2,h]; rfl
 ·rcases hb with h | ⟨h, h2⟩
  ·exact .inl h.symm
  ·refine .inr ?_; rw [h2,h]; rfl
open Go.Lib
def bA (l : List UInt8) : ByteArray := ⟨l.toArray⟩
def jT (l : List Stmt) : List UInt8 := joinTail [59] (l.map tS)
theorem jT_nil:jT [] = [] := by simp [jT,joinTail]
theorem jT_cons (s:Stmt) (l:List Stmt):jT (s :: l) = 59 :: (tS s ++ jT l) := by unfold jT;rw [List.map_cons,joinTail_cons]
theorem tL_jT (s:Stmt) (l:List Stmt):tL (s :: l) = tS s ++ jT l := tL_cons s l
theorem bA_data (l:List UInt8):(bA l).data.toList = l := rfl
theorem bA_toList (l:List UInt8):(bA l).toList = l := by rw [Lib.toList_data]; rfl
theorem bA_size (l:List UInt8):(bA l).size = l.length := rfl
theorem bA_inj {l m:List UInt8}(h:bA l = bA m):l = m:=by
 have : (bA l).data.toList = (bA m).data.toList := by rw [h]
 exact this
theorem bA_of (s:ByteArray):s = bA s.data.toList := rfl
theorem bA_ext (s t:ByteArray) (h:s.data.toList = t.data.toList):s = t := by rw [bA_of s,bA_of t,h]
theorem bA_app (l m:List UInt8):bA l ++ bA m = bA (l ++ m) := bA_ext _ _ (by rw [bdata_app]; rfl)
theorem bA_drop (l:List UInt8) (k:Nat):(bA l).extract k l.length = bA (l.drop k):=by
 apply bA_ext
 rw [ByteArray.data_extract,Array.toList_extract]
 show (l.drop k).take (l.length - k) = l.drop k
 rw [List.take_of_length_le (by simp)]
theorem bA_take (l:List UInt8) (k:Nat):(bA l).extract 0 k = bA (l.take k):=by
 apply bA_ext
 rw [ByteArray.data_extract,Array.toList_extract]
 show (l.drop 0).take (k - 0) = l.take k
 simp
theorem pfx_eq (t l:List UInt8):(decide (t.length ≤ l.length) && ((bA (l.take t.length)).toList == (bA t).toList)) = t.isPrefixOf l:=by
 rw [bA_toList,bA_toList,Bool.eq_iff_iff]
 simp only [Bool.and_eq_true,decide_eq_true_eq,beq_iff_eq,List.isPrefixOf_iff_prefix]
 constructor
 ·rintro ⟨_, h⟩
  rw [← h]; exact List.take_prefix _ _
 ·intro h
  exact ⟨h.length_le,(List.prefix_iff_eq_take.1 h).symm⟩
theorem b8_nat {n:Int}(h:0 ≤ n ∧ n ≤ 255):((b8 n).toNat:Int) = n:=by
 unfold b8
 rw [UInt8.toNat_ofNat']
 have : n.toNat % 2 ^ 8 = n.toNat := Nat.mod_eq_of_lt (by omega)
 rw [this]; omega
theorem b8_ne (c:UInt8) (n:Int) (h:0 ≤ n ∧ n ≤ 255) (hn:n ≠ (c.toNat:Int)):(c == b8 n) = false:=by
 rw [beq_eq_false_iff_ne]
 intro e
 have := b8_nat h
 rw [← e] at this
 exact hn this.symm
def RL (r : List UInt8) : Prop := r = [] ∨ ∃ q,r = 125 :: q
def RS (r : List UInt8) : Prop := r = [] ∨ (∃ q,r = 125 :: q) ∨ ∃ q,r = 59 :: q
theorem RL.rs {r:List UInt8}(h:RL r):RS r := h.imp id .inl
theorem RL.jT {r:List UInt8}(h:RL r):∀ l,RS (jT l ++ r)
 | [] => by rw [jT_nil]; exact h.rs
 | s :: l => by rw [jT_cons]; exact .inr (.inr ⟨_,rfl⟩)
theorem RS.ne {r:List UInt8}(h:RS r) (c:UInt8) (t:List UInt8) (h1:c ≠ 125) (h2:c ≠ 59):(c :: t).isPrefixOf r = false:=by
 rcases h with rfl | ⟨q,rfl⟩ | ⟨q,rfl⟩
 ·rfl
 ·simp [List.isPrefixOf,h1]
 ·simp [List.isPrefixOf,h2]
theorem RL.semi {r:List UInt8}(h:RL r):([59]:List UInt8).isPrefixOf r = false:=by
 rcases h with rfl | ⟨q,rfl⟩
 ·rfl
 ·simp [List.isPrefixOf]
theorem simple_can {ts:List Int}{s:Stmt}(h:simpleF ts s = true):(s.op = 1 ∨ s.op = 2 ∨ s.op = 8 → s.y = 0) ∧ (s.op ≠ 1 → s.op ≠ 2 → s.n = 0):=by
 unfold simpleF at h
 dsimp only at h
 repeat' split at h
 all_goals (first|(simp only [decide_eq_true_eq] at h;omega)|(simp at h;done))
theorem tS_ne {ts:List Int}(ht:typesOk ts = true){d:Nat}:∀ {s:Stmt},okS ts d s = true → ∃ c r,tS s = c :: r ∧ c ≠ 125
 | .mk op x y n th el, h => by
  simp only [okS] at h
  split at h
  ·rename_i h9
   simp only [Bool.and_eq_true] at h
   obtain ⟨⟨_,_⟩,h⟩ := h
   have hb := simple_bd ht h
   simp only [Stmt.op,Stmt.x,Stmt.y,Stmt.n] at hb
   have hx : b8 (97 + x) ≠ 125 := fun e => by have := b8_nat (n := 97 + x) (by omega);rw [e] at this;simp at this;omega
   have h18 : op = 1 ∨ op = 2 ∨ op = 3 ∨ op = 4 ∨ op = 5 ∨ op = 6 ∨ op = 7 ∨ op = 8 := by omega
   rcases h18 with rfl|rfl|rfl|rfl|rfl|rfl|rfl|rfl
   ·rw [tS1]; exact ⟨_,_,rfl,hx⟩
   ·rw [tS2]; exact ⟨_,_,rfl,hx⟩
   ·rw [tS3]; exact ⟨_,_,rfl,hx⟩
   ·rw [tS4]; exact ⟨_,_,rfl,hx⟩
   ·rw [tS5]; exact ⟨_,_,rfl,hx⟩
   ·rw [tS6]; exact ⟨_,_,rfl,hx⟩
   ·rw [tS7]; exact ⟨_,_,rfl,by decide⟩
   ·rw [tS8]; exact ⟨_,_,rfl,by decide⟩
  ·rename_i h9
   by_cases e : op = 9
   ·subst e;rw [tS9]; exact ⟨_,_,rfl,by decide⟩
   ·obtain rfl : op = 10 := by omega
    rw [tS10]; exact ⟨_,_,rfl,by decide⟩
def tyB (t : Int) : UInt8 := if t = 1 then 105 else if t = 2 then 98 else if t = 3 then 114 else 109
def tP (p : Prg) : List UInt8 := p.types.map tyB ++ 58 :: tL p.body
theorem tyB_ne {t:Int}:tyB t ≠ 58 ∧ tyB t ≠ 10 ∧ tyB t ≠ 32:=by
 unfold tyB;repeat' split
 all_goals decide
theorem tP_size {p:Prg}(h:validF p = true):(tP p).length ≤ 337:=by
 unfold validF at h
 simp only [Bool.and_eq_true,decide_eq_true_eq] at h
 obtain ⟨⟨h1,_⟩,h2⟩ := h
 have := typesOk_len h1
 have h3 := textL_size p.body
 have h4 : (tL p.body).length = (textL p.body).size := rfl
 unfold tP
 rw [List.length_append,List.length_cons,List.length_map,h4]
 omega
open Go.Lib
theorem b8_10 {n:Int}(h:48 ≤ n ∧ n ≤ 255):(10:UInt8) ≠ b8 n := fun e => by
 have := b8_nat (n := n) (by omega)
 rw [← e] at this
 have h2 : ((10 : UInt8).toNat : Int) = 10 := rfl
 omega
theorem simp_no10 {ts:List Int}(ht:typesOk ts = true){o x y n:Int}(h:simpleF ts (.mk o x y n [] []) = true):(10:UInt8) ∉ tS (.mk o x y n [] []):=by
 have hb := simple_bd ht h
 have hc := simple_can h
 simp only [Stmt.op,Stmt.x,Stmt.y,Stmt.n] at hb hc
 have hx := b8_10 (n := 97 + x) (by omega)
 have hy := b8_10 (n := 97 + y) (by omega)
 have hn := b8_10 (n := 48 + n) (by
  by_cases e : o = 1 ∨ o = 2
  ·have := hb.2.2.2.2.2.2 e;omega
  ·have := hc.2 (fun q => e (.inl q)) (fun q => e (.inr q));omega)
 have h18 : o = 1 ∨ o = 2 ∨ o = 3 ∨ o = 4 ∨ o = 5 ∨ o = 6 ∨ o = 7 ∨ o = 8 := by omega
 rcases h18 with rfl|rfl|rfl|rfl|rfl|rfl|rfl|rfl
 ·rw [tS1]; simp [hx,hn]
 ·rw [tS2]; simp [hx,hn]
 ·rw [tS3]; simp [hx,hy]
 ·rw [tS4]; simp [hx,hy]
 ·rw [tS5]; simp [hx,hy]
 ·rw [tS6]; simp [hx,hy]
 ·rw [tS7]; simp [hx,hy]
 ·rw [tS8]; simp [hx]
mutual
theorem tS_no10 {ts:List Int}(ht:typesOk ts = true):∀ (s:Stmt) (d:Nat),okS ts d s = true → (10:UInt8) ∉ tS s
 | .mk op x y n th el, d, h => by
  simp only [okS] at h
  split at h
  ·rename_i h9
   simp only [Bool.and_eq_true,List.isEmpty_iff] at h
   obtain ⟨⟨rfl,rfl⟩,h⟩ := h
   exact simp_no10 ht h
  ·rename_i h9
   cases d with
   | zero => cases h
   | succ d =>
    simp only [Bool.and_eq_true] at h
    have h1 := tL_no10 ht th d h.1.2
    have h2 := tL_no10 ht el d h.2
    by_cases e : op = 9
    ·subst e;rw [tS9]; simp [h1,h2]
    ·obtain rfl : op = 10 := by omega
     rw [tS10]; simp [h1]
theorem tL_no10 {ts:List Int}(ht:typesOk ts = true):∀ (l:List Stmt) (d:Nat),okL ts d l = true → (10:UInt8) ∉ tL l
 | [],d,h => by rw [tL_nil]; simp
 | s :: l, d, h => by
  simp only [okL,Bool.and_eq_true] at h
  have h1 := tS_no10 ht s d h.1
  have h2 := jT_no10 ht l d h.2
  rw [tL_jT]; simp [h1,h2]
theorem jT_no10 {ts:List Int}(ht:typesOk ts = true):∀ (l:List Stmt) (d:Nat),okL ts d l = true → (10:UInt8) ∉ jT l
 | [],d,h => by rw [jT_nil]; simp
 | s :: l, d, h => by
  simp only [okL,Bool.and_eq_true] at h
  have h1 := tS_no10 ht s d h.1
  have h2 := jT_no10 ht l d h.2
  rw [jT_cons]; simp [h1,h2]
end
theorem tP_no10 {p:Prg}(h:validF p = true):(10:UInt8) ∉ tP p:=by
 unfold validF at h
 simp only [Bool.and_eq_true,decide_eq_true_eq] at h
 have h1 := tL_no10 h.1.1 p.body 4 h.1.2
 unfold tP
 simp only [List.mem_append,List.mem_cons,List.mem_map,not_or]
 exact ⟨fun ⟨t,_,e⟩ => (tyB_ne (t := t)).2.1 e,by decide,h1⟩
open Go.Lib
def dB (n : Int) : List UInt8 := (dec2F n).data.toList
theorem dB_len (n:Int):(dB n).length ≤ 2 := dec2F_size n
def numB (l : List Int) : List UInt8 := l.flatMap fun n => 32 :: dB n
theorem numB_len:∀ l:List Int,(numB l).length ≤ 3 * l.length
 | [] => by simp [numB]
 | n :: l => by
  have h1 := numB_len l
  have h2 := dB_len n
  have e : numB (n :: l) = (32 :: dB n) ++ numB l := rfl
  rw [e,List.length_append,List.length_cons,List.length_cons]; omega
theorem numB_app (l m:List Int):numB (l ++ m) = numB l ++ numB m := by simp [numB]
theorem numB_one (n:Int):numB [n] = 32 :: dB n := by simp [numB]
end Go.AL
namespace Go.AL
def Kp (ts : List Int) (pts : List Pnt) (a v : Nat) : Prop := Lv ts pts a v ∧ setAt pts[a]! ≠ (v : Int) ∧ useAt ts pts[a]! v ≠ 2
section
variable {ts : List Int} {pts : List Pnt} {a : Nat} {s : Mc}
theorem run_codes (w:WG ts pts) (A:WA ts pts) (cs:List Int) (n:Nat):(runP ts pts cs n).2.1 = 0 ∨ (runP ts pts cs n).2.1 = 1 ∨ (runP ts pts cs n).2.1 = 2 ∨ (runP ts pts cs n).2.1 = 3 ∨ (runP ts pts cs n).2.1 = 4:=by
 have h := run_inv w A (Vs ts pts) (Vs.step w A) n 0 cs (mc0 ts.length) 0 w.p0 Vs.start
 change Out ts pts (Vs ts pts) (runP ts pts cs n) at h
 rcases h with h | ⟨s',h0,hI,⟨h3,_⟩ | ⟨_,h4,_,h5⟩⟩
 ·exact .inr (.inl h)
 ·exact .inr (.inr (.inl h3))
 ·rw [h5]
  by_cases q : pts[(runP ts pts cs n).2.2]!.op = 11
  ·rw [do_11 q]
   rcases fin_end ts ts.length 0 s' with e|e|e <;> (rw [e]; simp)
  ·rcases do_end (ts := ts) (s := s') q with e | e | e | e
   ·exact absurd e h4
   all_goals (rw [e]; simp)
end
end Go.AL
