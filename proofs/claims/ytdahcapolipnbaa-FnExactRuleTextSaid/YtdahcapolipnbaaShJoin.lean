/- The shelf's contracts at this seat, in plain words: written by the kit's lay-plain.mjs. -/
import Derived.Shelf.Strings.OnBuilder
import Derived.Ground.SlgnProg
import Derived.Ground.SlgmProg
import Derived.Test.YtdahcapolipnbaaProg
namespace Go.Proofs
open Go.Shelf
def Try.lays156_ren : Go.Shelf.Ren := ⟨fun | 156 => 122 | 165 => 158 | 166 => 159 | 169 => 160 | 240 => 178 | 241 => 179 | 276 => 195 | 277 => 196 | n => n, fun | 31 => 156 | 9 => 9 | 3 => 3 | 4 => 4 | 0 => 0 | 20 => 20 | 72 => 189 | 76 => 193 | 70 => 187 | 37 => 184 | 75 => 192 | 127 => 205 | 164 => 220 | 5 => 5 | 80 => 195 | n => n, fun | n => n⟩
theorem Try.lays156 : Go.Proofs.Lays.n156 Try.prog Try.lays156_ren := {
  mixed := by kernel_rfl
  f156 := Try.func122.trans (congrArg some (by kernel_rfl))
  f165 := Try.func158.trans (congrArg some (by kernel_rfl))
  f166 := Try.func159.trans (congrArg some (by kernel_rfl))
  f169 := Try.func160.trans (congrArg some (by kernel_rfl))
  f240 := Try.func178.trans (congrArg some (by kernel_rfl))
  f241 := Try.func179.trans (congrArg some (by kernel_rfl))
  f276 := Try.func195.trans (congrArg some (by kernel_rfl))
  f277 := Try.func196.trans (congrArg some (by kernel_rfl))
  t0 := Try.underlying0
  a0 := Try.isAgg0
  z0 := Try.sizeOf0
  v0 := Try.zeroValue0
  t3 := Try.underlying3
  a3 := Try.isAgg3
  z3 := Try.sizeOf3
  v3 := Try.zeroValue3
  t4 := Try.underlying4
  a4 := Try.isAgg4
  z4 := Try.sizeOf4
  v4 := Try.zeroValue4
  t9 := Try.underlying9
  a9 := Try.isAgg9
  z9 := Try.sizeOf9
  v9 := Try.zeroValue9
  t20 := Try.underlying20
  a20 := Try.isAgg20
  z20 := Try.sizeOf20
  v20 := Try.zeroValue20
  t31 := Try.underlying156
  a31 := Try.isAgg156
  z31 := Try.sizeOf156
  v31 := Try.zeroValue156
  t37 := Try.underlying184
  a37 := Try.isAgg184
  z37 := Try.sizeOf184
  v37 := Try.zeroValue184
  t70 := Try.underlying187
  a70 := Try.isAgg187
  z70 := Try.sizeOf187
  v70 := Try.zeroValue187
  t72 := Try.underlying189
  a72 := Try.isAgg189
  z72 := Try.sizeOf189
  v72 := Try.zeroValue189
  t75 := Try.underlying192
  a75 := Try.isAgg192
  z75 := Try.sizeOf192
  v75 := Try.zeroValue192
  t76 := Try.underlying193
  a76 := Try.isAgg193
  z76 := Try.sizeOf193
  v76 := Try.zeroValue193
  t127 := Try.underlying205
  a127 := Try.isAgg205
  z127 := Try.sizeOf205
  v127 := Try.zeroValue205
  t164 := Try.underlying220
  a164 := Try.isAgg220
  z164 := Try.sizeOf220
  v164 := Try.zeroValue220 }
theorem Try.Builder_Extra_156 : Builder.Extra Try.prog Try.lays156_ren := {
  sizeBuilder := by kernel_rfl
  liesBuilder := by kernel_rfl
  t5 := Try.underlying5
  a5 := Try.isAgg5
  z5 := Try.sizeOf5
  v5 := Try.zeroValue5
  infoByte := by kernel_rfl
  cellsByte := by kernel_rfl
  sizeByte := by kernel_rfl
  neB5 := by decide }
open Go.RowKit in
theorem Try.strings_Join_none (a : Option Addr) (c : Nat) (sep : ByteArray) (w : World) :
    Calls Try.prog 122 #[.slice a 0 c, .string sep] w fun e w' => e = .returned (.string ⟨#[]⟩) ∧ w' = w := Any.strings_Join_none Try.lays156 Try.Builder_Extra_156 a c sep w
open Go.RowKit in
theorem Try.strings_Join (bk o c : Nat) (xs : List ByteArray) (sep : ByteArray) (w : World) (hcells : ∀ (j : Nat) x, xs[j]? = some x → w.cell? ⟨bk, o + j, none⟩ = some (.string x)) (hbk : bk < w.heap.size) (hN : xs.length ≤ 140737488355328) (hcap : xs.length ≤ c) (hlen : (Lib.join (xs.map (·.data.toList)) sep.data.toList).length ≤ 140737488355328) :
    Calls Try.prog 122 #[.slice (some ⟨bk, o, none⟩) xs.length c, .string sep] w fun e w' => e = .returned (.string ⟨(Lib.join (xs.map (·.data.toList)) sep.data.toList).toArray⟩) ∧ Below w.heap.size w w' := Any.strings_Join Try.lays156 Try.Builder_Extra_156 bk o c xs sep w hcells hbk hN hcap hlen
end Go.Proofs
