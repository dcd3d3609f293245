/- What strings.ContainsAny, strings.TrimRight and strings.ReplaceAll compute, as far as the requests' functions call them. -/
import Derived.Test.YtpeimnipoohaaaaDoorQRwx0
import Derived.Test.YtpeimnipoohaaaaDoorAnyBig
import Derived.Test.YtpeimnipoohaaaaDoorReplOne
import Derived.Test.YtpeimnipoohaaaaDoorQRqx7
import Derived.Shelf.Strings.SlTrimAscii
namespace Go.Proofs.YtpeimnipoohaaaaDoor.Lay3
open Go.Shelf Go.Proofs
def l150_ren : Go.Shelf.Ren := ⟨fun | 150 => 37 | 153 => 55 | 152 => 66 | 226 => 67 | 227 => 48 | 228 => 62 | 137 => 32 | 119 => 76 | 224 => 77 | 225 => 78 | 217 => 54 | 266 => 65 | n => n, fun | 9 => 9 | 4 => 4 | 3 => 3 | 5 => 5 | 21 => 21 | 117 => 72 | 116 => 71 | 0 => 0 | 46 => 88 | 124 => 75 | n => n, fun | n => n⟩
theorem l150 : Go.Proofs.Lays.n150 Tryd.prog l150_ren := {
  mixed := by kernel_rfl,
  f119 := Tryd.func76.trans (congrArg some (by kernel_rfl)),
  f137 := Tryd.func32.trans (congrArg some (by kernel_rfl)),
  f150 := Tryd.func37.trans (congrArg some (by kernel_rfl)),
  f152 := Tryd.func66.trans (congrArg some (by kernel_rfl)),
  f153 := Tryd.func55.trans (congrArg some (by kernel_rfl)),
  f217 := Tryd.func54.trans (congrArg some (by kernel_rfl)),
  f224 := Tryd.func77.trans (congrArg some (by kernel_rfl)),
  f225 := Tryd.func78.trans (congrArg some (by kernel_rfl)),
  f226 := Tryd.func67.trans (congrArg some (by kernel_rfl)),
  f227 := Tryd.func48.trans (congrArg some (by kernel_rfl)),
  f228 := Tryd.func62.trans (congrArg some (by kernel_rfl)),
  f266 := Tryd.func65.trans (congrArg some (by kernel_rfl)),
  t0 := Tryd.underlying0,
  a0 := Tryd.isAgg0,
  z0 := Tryd.sizeOf0,
  v0 := Tryd.zeroValue0,
  t3 := Tryd.underlying3,
  a3 := Tryd.isAgg3,
  z3 := Tryd.sizeOf3,
  v3 := Tryd.zeroValue3,
  t4 := Tryd.underlying4,
  a4 := Tryd.isAgg4,
  z4 := Tryd.sizeOf4,
  v4 := Tryd.zeroValue4,
  t5 := Tryd.underlying5,
  a5 := Tryd.isAgg5,
  z5 := Tryd.sizeOf5,
  v5 := Tryd.zeroValue5,
  t9 := Tryd.underlying9,
  a9 := Tryd.isAgg9,
  z9 := Tryd.sizeOf9,
  v9 := Tryd.zeroValue9,
  t21 := Tryd.underlying21,
  a21 := Tryd.isAgg21,
  z21 := Tryd.sizeOf21,
  v21 := Tryd.zeroValue21,
  t46 := Tryd.underlying88,
  a46 := Tryd.isAgg88,
  z46 := Tryd.sizeOf88,
  v46 := Tryd.zeroValue88,
  t116 := Tryd.underlying71,
  a116 := Tryd.isAgg71,
  z116 := Tryd.sizeOf71,
  t117 := Tryd.underlying72,
  a117 := Tryd.isAgg72,
  z117 := Tryd.sizeOf72,
  v117 := Tryd.zeroValue72,
  t124 := Tryd.underlying75,
  a124 := Tryd.isAgg75,
  z124 := Tryd.sizeOf75,
  v124 := Tryd.zeroValue75 }
def l162_ren : Go.Shelf.Ren := ⟨fun | 162 => 57 | 232 => 70 | 227 => 48 | 234 => 71 | 236 => 72 | 228 => 62 | 271 => 81 | 151 => 64 | 120 => 86 | 197 => 63 | 152 => 66 | 260 => 75 | 137 => 32 | 119 => 76 | 224 => 77 | 225 => 78 | 217 => 54 | 266 => 65 | n => n, fun | 9 => 9 | 4 => 4 | 3 => 3 | 5 => 5 | 117 => 72 | 116 => 71 | 0 => 0 | 124 => 75 | 21 => 21 | 105 => 79 | 46 => 88 | 119 => 99 | 139 => 102 | 138 => 101 | n => n, fun | 3 => 1 | 4 => 2 | n => n⟩
theorem l162 : Go.Proofs.Lays.n162 Tryd.prog l162_ren := {
  mixed := by kernel_rfl,
  f119 := Tryd.func76.trans (congrArg some (by kernel_rfl)),
  f120 := Tryd.func86.trans (congrArg some (by kernel_rfl)),
  f137 := Tryd.func32.trans (congrArg some (by kernel_rfl)),
  f151 := Tryd.func64.trans (congrArg some (by kernel_rfl)),
  f152 := Tryd.func66.trans (congrArg some (by kernel_rfl)),
  f162 := Tryd.func57.trans (congrArg some (by kernel_rfl)),
  f197 := Tryd.func63.trans (congrArg some (by kernel_rfl)),
  f217 := Tryd.func54.trans (congrArg some (by kernel_rfl)),
  f224 := Tryd.func77.trans (congrArg some (by kernel_rfl)),
  f225 := Tryd.func78.trans (congrArg some (by kernel_rfl)),
  f227 := Tryd.func48.trans (congrArg some (by kernel_rfl)),
  f228 := Tryd.func62.trans (congrArg some (by kernel_rfl)),
  f232 := Tryd.func70.trans (congrArg some (by kernel_rfl)),
  f234 := Tryd.func71.trans (congrArg some (by kernel_rfl)),
  f236 := Tryd.func72.trans (congrArg some (by kernel_rfl)),
  f260 := Tryd.func75.trans (congrArg some (by kernel_rfl)),
  f266 := Tryd.func65.trans (congrArg some (by kernel_rfl)),
  f271 := Tryd.func81.trans (congrArg some (by kernel_rfl)),
  t0 := Tryd.underlying0,
  a0 := Tryd.isAgg0,
  z0 := Tryd.sizeOf0,
  v0 := Tryd.zeroValue0,
  t3 := Tryd.underlying3,
  a3 := Tryd.isAgg3,
  z3 := Tryd.sizeOf3,
  v3 := Tryd.zeroValue3,
  t4 := Tryd.underlying4,
  a4 := Tryd.isAgg4,
  z4 := Tryd.sizeOf4,
  v4 := Tryd.zeroValue4,
  t5 := Tryd.underlying5,
  a5 := Tryd.isAgg5,
  z5 := Tryd.sizeOf5,
  v5 := Tryd.zeroValue5,
  t9 := Tryd.underlying9,
  a9 := Tryd.isAgg9,
  z9 := Tryd.sizeOf9,
  v9 := Tryd.zeroValue9,
  t21 := Tryd.underlying21,
  a21 := Tryd.isAgg21,
  z21 := Tryd.sizeOf21,
  v21 := Tryd.zeroValue21,
  t46 := Tryd.underlying88,
  a46 := Tryd.isAgg88,
  z46 := Tryd.sizeOf88,
  v46 := Tryd.zeroValue88,
  t105 := Tryd.underlying79,
  a105 := Tryd.isAgg79,
  z105 := Tryd.sizeOf79,
  v105 := Tryd.zeroValue79,
  t116 := Tryd.underlying71,
  a116 := Tryd.isAgg71,
  z116 := Tryd.sizeOf71,
  t117 := Tryd.underlying72,
  a117 := Tryd.isAgg72,
  z117 := Tryd.sizeOf72,
  v117 := Tryd.zeroValue72,
  t119 := Tryd.underlying99,
  a119 := Tryd.isAgg99,
  z119 := Tryd.sizeOf99,
  t124 := Tryd.underlying75,
  a124 := Tryd.isAgg75,
  z124 := Tryd.sizeOf75,
  v124 := Tryd.zeroValue75,
  t138 := Tryd.underlying101,
  a138 := Tryd.isAgg101,
  z138 := Tryd.sizeOf101,
  v138 := Tryd.zeroValue101,
  t139 := Tryd.underlying102,
  a139 := Tryd.isAgg102,
  z139 := Tryd.sizeOf102,
  v139 := Tryd.zeroValue102,
  g3 := by kernel_rfl,
  g4 := by kernel_rfl }
def l155_ren : Go.Shelf.Ren := ⟨fun | 155 => 58 | 154 => 73 | 138 => 69 | 165 => 82 | 143 => 59 | 166 => 83 | 197 => 63 | 169 => 84 | 195 => 79 | 218 => 80 | 240 => 87 | 241 => 88 | 219 => 74 | 260 => 75 | 276 => 90 | 277 => 91 | 217 => 54 | 225 => 78 | 224 => 77 | 267 => 85 | 266 => 65 | 314 => 89 | n => n, fun | 9 => 9 | 3 => 3 | 4 => 4 | 72 => 92 | 0 => 0 | 76 => 96 | 105 => 79 | 21 => 21 | 5 => 5 | 70 => 90 | 20 => 20 | 37 => 27 | 75 => 95 | 127 => 103 | 164 => 107 | 46 => 88 | 119 => 99 | 139 => 102 | 138 => 101 | 146 => 105 | 51 => 104 | 80 => 98 | n => n, fun | 1 => 0 | 3 => 1 | 4 => 2 | n => n⟩
theorem l155 : Go.Proofs.Lays.n155 Tryd.prog l155_ren := {
  mixed := by kernel_rfl,
  f138 := Tryd.func69.trans (congrArg some (by kernel_rfl)),
  f143 := Tryd.func59.trans (congrArg some (by kernel_rfl)),
  f154 := Tryd.func73.trans (congrArg some (by kernel_rfl)),
  f155 := Tryd.func58.trans (congrArg some (by kernel_rfl)),
  f165 := Tryd.func82.trans (congrArg some (by kernel_rfl)),
  f166 := Tryd.func83.trans (congrArg some (by kernel_rfl)),
  f169 := Tryd.func84.trans (congrArg some (by kernel_rfl)),
  f195 := Tryd.func79.trans (congrArg some (by kernel_rfl)),
  f197 := Tryd.func63.trans (congrArg some (by kernel_rfl)),
  f217 := Tryd.func54.trans (congrArg some (by kernel_rfl)),
  f218 := Tryd.func80.trans (congrArg some (by kernel_rfl)),
  f219 := Tryd.func74.trans (congrArg some (by kernel_rfl)),
  f224 := Tryd.func77.trans (congrArg some (by kernel_rfl)),
  f225 := Tryd.func78.trans (congrArg some (by kernel_rfl)),
  f240 := Tryd.func87.trans (congrArg some (by kernel_rfl)),
  f241 := Tryd.func88.trans (congrArg some (by kernel_rfl)),
  f260 := Tryd.func75.trans (congrArg some (by kernel_rfl)),
  f266 := Tryd.func65.trans (congrArg some (by kernel_rfl)),
  f267 := Tryd.func85.trans (congrArg some (by kernel_rfl)),
  f276 := Tryd.func90.trans (congrArg some (by kernel_rfl)),
  f277 := Tryd.func91.trans (congrArg some (by kernel_rfl)),
  f314 := Tryd.func89.trans (congrArg some (by kernel_rfl)),
  t0 := Tryd.underlying0,
  a0 := Tryd.isAgg0,
  z0 := Tryd.sizeOf0,
  v0 := Tryd.zeroValue0,
  t3 := Tryd.underlying3,
  a3 := Tryd.isAgg3,
  z3 := Tryd.sizeOf3,
  v3 := Tryd.zeroValue3,
  t4 := Tryd.underlying4,
  a4 := Tryd.isAgg4,
  z4 := Tryd.sizeOf4,
  v4 := Tryd.zeroValue4,
  t5 := Tryd.underlying5,
  a5 := Tryd.isAgg5,
  z5 := Tryd.sizeOf5,
  v5 := Tryd.zeroValue5,
  t9 := Tryd.underlying9,
  a9 := Tryd.isAgg9,
  z9 := Tryd.sizeOf9,
  v9 := Tryd.zeroValue9,
  t20 := Tryd.underlying20,
  a20 := Tryd.isAgg20,
  z20 := Tryd.sizeOf20,
  v20 := Tryd.zeroValue20,
  t21 := Tryd.underlying21,
  a21 := Tryd.isAgg21,
  z21 := Tryd.sizeOf21,
  v21 := Tryd.zeroValue21,
  t37 := Tryd.underlying27,
  a37 := Tryd.isAgg27,
  z37 := Tryd.sizeOf27,
  v37 := Tryd.zeroValue27,
  t46 := Tryd.underlying88,
  a46 := Tryd.isAgg88,
  z46 := Tryd.sizeOf88,
  v46 := Tryd.zeroValue88,
  t51 := Tryd.underlying104,
  a51 := Tryd.isAgg104,
  z51 := Tryd.sizeOf104,
  v51 := Tryd.zeroValue104,
  t70 := Tryd.underlying90,
  a70 := Tryd.isAgg90,
  z70 := Tryd.sizeOf90,
  v70 := Tryd.zeroValue90,
  t72 := Tryd.underlying92,
  a72 := Tryd.isAgg92,
  z72 := Tryd.sizeOf92,
  v72 := Tryd.zeroValue92,
  t75 := Tryd.underlying95,
  a75 := Tryd.isAgg95,
  z75 := Tryd.sizeOf95,
  v75 := Tryd.zeroValue95,
  t76 := Tryd.underlying96,
  a76 := Tryd.isAgg96,
  z76 := Tryd.sizeOf96,
  v76 := Tryd.zeroValue96,
  t105 := Tryd.underlying79,
  a105 := Tryd.isAgg79,
  z105 := Tryd.sizeOf79,
  v105 := Tryd.zeroValue79,
  t119 := Tryd.underlying99,
  a119 := Tryd.isAgg99,
  z119 := Tryd.sizeOf99,
  t127 := Tryd.underlying103,
  a127 := Tryd.isAgg103,
  z127 := Tryd.sizeOf103,
  v127 := Tryd.zeroValue103,
  t138 := Tryd.underlying101,
  a138 := Tryd.isAgg101,
  z138 := Tryd.sizeOf101,
  v138 := Tryd.zeroValue101,
  t139 := Tryd.underlying102,
  a139 := Tryd.isAgg102,
  z139 := Tryd.sizeOf102,
  v139 := Tryd.zeroValue102,
  t146 := Tryd.underlying105,
  a146 := Tryd.isAgg105,
  z146 := Tryd.sizeOf105,
  v146 := Tryd.zeroValue105,
  t164 := Tryd.underlying107,
  a164 := Tryd.isAgg107,
  z164 := Tryd.sizeOf107,
  v164 := Tryd.zeroValue107,
  g1 := by kernel_rfl,
  g3 := by kernel_rfl,
  g4 := by kernel_rfl }
theorem extra : Builder.Extra Tryd.prog l155_ren := { sizeBuilder := by kernel_rfl, liesBuilder := by kernel_rfl, t5 := Tryd.underlying5, a5 := Tryd.isAgg5, z5 := Tryd.sizeOf5, v5 := Tryd.zeroValue5, infoByte := by kernel_rfl, cellsByte := by kernel_rfl, sizeByte := by kernel_rfl, neB5 := by decide }
end Go.Proofs.YtpeimnipoohaaaaDoor.Lay3
namespace Go.Proofs.YtpeimnipoohaaaaDoor.QRw
open Go.Proofs.YtpeimnipoohaaaaDoor.QRq Go.RowKit Go.Proofs.YtpeimnipoohaaaaDoorW.PrintWords Go.Proofs.YtpeimnipoohaaaaDoorW.PrintLast Go.Proofs.YtpeimnipoohaaaaDoorW.PrintMore
set_option linter.unusedVariables false
def strings_ContainsAny.f (a0 : ByteArray) (a1 : ByteArray) : Option Bool :=
  if a0.size < 4611686018427387904 ∧ 2 ≤ a1.size ∧ a1.size < 4294967281 ∧ asciiOf a1 = true then some (Lib.containsAny a0.data.toList a1.data.toList) else none
theorem strings_ContainsAny.calls (a0 : ByteArray) (a1 : ByteArray) (r : Bool) (w : World) (h : strings_ContainsAny.f a0 a1 = some r) :
    Calls Tryd.prog 37 #[.string a0, .string a1] w fun e w' => e = .returned (.bool r) ∧ Below w.heap.size w w' := by
  unfold strings_ContainsAny.f at h
  split at h
  · rename_i hc
    cases h
    exact IdxAny.contains_big Lay3.l150 (by kernel_rfl) a0 a1 w hc.2.1 hc.1 hc.2.2.1 (ascii_mem hc.2.2.2)
  · cases h
def strings_TrimRight.f (a0 : ByteArray) (a1 : ByteArray) : Option ByteArray :=
  if a0.size < 4294967281 ∧ a1.size < 4294967281 ∧ asciiOf a1 = true then some ⟨(Lib.trimRightS a0.data.toList a1.data.toList).toArray⟩ else none
theorem strings_TrimRight.calls (a0 : ByteArray) (a1 : ByteArray) (r : ByteArray) (w : World) (h : strings_TrimRight.f a0 a1 = some r) :
    Calls Tryd.prog 57 #[.string a0, .string a1] w fun e w' => e = .returned (.string r) ∧ Below w.heap.size w w' := by
  unfold strings_TrimRight.f at h
  split at h
  · rename_i hc
    cases h
    exact Any.strings_TrimRight_laid Lay3.l162 (by kernel_rfl) a0 a1 w (by omega) hc.2.1 fun j b hj => ascii_mem hc.2.2 b (List.mem_of_getElem? hj)
  · cases h
def strings_ReplaceAll.f (a0 : ByteArray) (a1 : ByteArray) (a2 : ByteArray) : Option ByteArray :=
  match a1.data.toList with
  | [c] => if a0.size < 10000000 ∧ a2.size < 10000 ∧ a2.data.toList ≠ [c] then some ⟨(ReplOne.rep c a2.data.toList a0.data.toList).toArray⟩ else none
  | _ => none
theorem strings_ReplaceAll.calls (a0 : ByteArray) (a1 : ByteArray) (a2 : ByteArray) (r : ByteArray) (w : World) (h : strings_ReplaceAll.f a0 a1 a2 = some r) :
    Calls Tryd.prog 58 #[.string a0, .string a1, .string a2] w fun e w' => e = .returned (.string r) ∧ Below w.heap.size w w' := by
  unfold strings_ReplaceAll.f at h
  split at h
  · rename_i c hc
    split at h
    · rename_i hk
      cases h
      obtain rfl : a1 = ⟨#[c]⟩ := by
        obtain ⟨d⟩ := a1
        have : d.toList = [c] := hc
        congr 1
        exact Array.toList_inj.1 this
      refine ReplOne.replaceAll_one Lay3.l155 Lay3.extra a0 a2 c w (fun e => hk.2.2 (by rw [← e])) (by omega) ?_
      have : a0.size * a2.size ≤ 10000000 * 10000 := Nat.mul_le_mul (by omega) (by omega)
      omega
    · cases h
  · cases h
end Go.Proofs.YtpeimnipoohaaaaDoor.QRw
