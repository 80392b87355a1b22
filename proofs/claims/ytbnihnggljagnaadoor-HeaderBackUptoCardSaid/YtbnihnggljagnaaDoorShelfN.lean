/-
  DERIVED: THE SHELF's CONTRACTS AT THIS DUMP, IN PLAIN WORDS (tools/lay-plain.mjs out of 'TrydNShelf.lean', which tools/lay-shelf.mjs wrote): THE SAME DECLARATIONS UNDER THE SAME NAMES: 'import', 'namespace', 'open', 'def', 'theorem' AND NOTHING ELSE: no command of the shelf's: FOR A HAND-IN. Each laying: the table of numbers ('.._ren') and one theorem, a field a fact of the dump's own or the kernel's comparison; each contract: ONE APPLICATION.
-/
import Derived.Shelf.Strconv.AtoiAll
import Derived.Shelf.Strconv.Itoa3
import Derived.Shelf.Strconv.Itoa2
import Derived.Shelf.LaysM
import Derived.Shelf.LaysC
import Derived.Ground.Names2Prog
import Derived.Test.YtbnihnggljagnaaDoorProg
namespace Go.Proofs
open Go.Shelf
def Tryd.laysM171_ren : Go.Shelf.Ren := ⟨fun | 171 => 89 | 243 => 140 | 246 => 179 | 283 => 180 | 284 => 181 | 285 => 182 | 286 => 183 | 129 => 164 | 317 => 211 | 318 => 212 | 319 => 213 | 320 => 214 | 337 => 227 | 338 => 228 | n => n, fun | 3 => 3 | 9 => 9 | 2 => 2 | 4 => 4 | 171 => 219 | 0 => 0 | 53 => 141 | 37 => 67 | 5 => 5 | 173 => 221 | 212 => 240 | 51 => 39 | 20 => 20 | 213 => 241 | 46 => 115 | 232 => 268 | 233 => 269 | n => n, fun | 17 => 1 | 18 => 6 | 19 => 7 | n => n⟩
theorem Tryd.laysM171 : Go.Proofs.LaysM.n171 Tryd.prog Tryd.laysM171_ren := {
  mixed := by kernel_rfl
  f129 := Tryd.func164.trans (congrArg some (by kernel_rfl))
  f171 := Tryd.func89.trans (congrArg some (by kernel_rfl))
  f243 := Tryd.func140.trans (congrArg some (by kernel_rfl))
  f246 := Tryd.func179.trans (congrArg some (by kernel_rfl))
  f283 := Tryd.func180.trans (congrArg some (by kernel_rfl))
  f284 := Tryd.func181.trans (congrArg some (by kernel_rfl))
  f285 := Tryd.func182.trans (congrArg some (by kernel_rfl))
  f286 := Tryd.func183.trans (congrArg some (by kernel_rfl))
  f317 := Tryd.func211.trans (congrArg some (by kernel_rfl))
  f318 := Tryd.func212.trans (congrArg some (by kernel_rfl))
  f319 := Tryd.func213.trans (congrArg some (by kernel_rfl))
  f320 := Tryd.func214.trans (congrArg some (by kernel_rfl))
  f337 := Tryd.func227.trans (congrArg some (by kernel_rfl))
  f338 := Tryd.func228.trans (congrArg some (by kernel_rfl))
  t0 := Tryd.underlying0
  a0 := Tryd.isAgg0
  z0 := Tryd.sizeOf0
  v0 := Tryd.zeroValue0
  t2 := Tryd.underlying2
  a2 := Tryd.isAgg2
  z2 := Tryd.sizeOf2
  v2 := Tryd.zeroValue2
  t3 := Tryd.underlying3
  a3 := Tryd.isAgg3
  z3 := Tryd.sizeOf3
  v3 := Tryd.zeroValue3
  t4 := Tryd.underlying4
  a4 := Tryd.isAgg4
  z4 := Tryd.sizeOf4
  v4 := Tryd.zeroValue4
  t5 := Tryd.underlying5
  a5 := Tryd.isAgg5
  z5 := Tryd.sizeOf5
  v5 := Tryd.zeroValue5
  t9 := Tryd.underlying9
  a9 := Tryd.isAgg9
  z9 := Tryd.sizeOf9
  v9 := Tryd.zeroValue9
  t20 := Tryd.underlying20
  a20 := Tryd.isAgg20
  z20 := Tryd.sizeOf20
  v20 := Tryd.zeroValue20
  t37 := Tryd.underlying67
  a37 := Tryd.isAgg67
  z37 := Tryd.sizeOf67
  v37 := Tryd.zeroValue67
  t46 := Tryd.underlying115
  a46 := Tryd.isAgg115
  z46 := Tryd.sizeOf115
  v46 := Tryd.zeroValue115
  t51 := Tryd.underlying39
  a51 := Tryd.isAgg39
  z51 := Tryd.sizeOf39
  v51 := Tryd.zeroValue39
  t53 := Tryd.underlying141
  a53 := Tryd.isAgg141
  z53 := Tryd.sizeOf141
  v53 := Tryd.zeroValue141
  t171 := Tryd.underlying219
  a171 := Tryd.isAgg219
  z171 := Tryd.sizeOf219
  v171 := Tryd.zeroValue219
  t173 := Tryd.underlying221
  a173 := Tryd.isAgg221
  z173 := Tryd.sizeOf221
  v173 := Tryd.zeroValue221
  t212 := Tryd.underlying240
  a212 := Tryd.isAgg240
  z212 := Tryd.sizeOf240
  v212 := Tryd.zeroValue240
  t213 := Tryd.underlying241
  a213 := Tryd.isAgg241
  z213 := Tryd.sizeOf241
  t232 := Tryd.underlying268
  a232 := Tryd.isAgg268
  z232 := Tryd.sizeOf268
  v232 := Tryd.zeroValue268
  t233 := Tryd.underlying269
  a233 := Tryd.isAgg269
  z233 := Tryd.sizeOf269
  v233 := Tryd.zeroValue269
  g17 := by kernel_rfl
  g18 := by kernel_rfl
  g19 := by kernel_rfl
  i0 := by kernel_rfl
  i2 := by kernel_rfl
  i3 := by kernel_rfl
  i4 := by kernel_rfl
  i5 := by kernel_rfl
  i9 := by kernel_rfl
  i20 := by kernel_rfl
  i37 := by kernel_rfl
  i46 := by kernel_rfl
  i51 := by kernel_rfl
  i53 := by kernel_rfl
  i171 := by kernel_rfl
  i173 := by kernel_rfl
  i212 := by kernel_rfl
  i232 := by kernel_rfl
  i233 := by kernel_rfl
  m17 := by kernel_rfl
  m18 := by kernel_rfl
  m19 := by kernel_rfl }
open Go.RowKit Go.Sort Go.Lib in
/-- strconv.Itoa: "Itoa is equivalent to FormatInt(int64(i), 10).": i's DECIMAL NUMERAL ('Lib.itoa': a '-' where i is negative, then the digits), FOR EVERY int. The world behind the call: the world before it, new blocks behind the heap (the library's 'var a [24]byte'), draws. (LAID: no walk: one application.) -/
theorem Tryd.strconv_Itoa (n : Int) (h0 : -9223372036854775808 ≤ n) (h1 : n ≤ 9223372036854775807) (w : World) (htab : Lib.TabIs Tryd.prog w "internal/strconv.uint64pow10" .u64 Lib.pow10Tab) :
    Calls Tryd.prog 89 #[.int .i64 n] w fun e w' => e = .returned (.string ⟨(Lib.itoa n).toArray⟩) ∧ ∃ k os, w' = grow (w.drewN k) os := Any.strconv_Itoa Tryd.laysM171 n h0 h1 w htab

def Tryd.laysC172_ren : Go.Shelf.Ren := ⟨fun | 172 => 106 | 244 => 157 | 245 => 158 | 247 => 188 | 279 => 189 | 280 => 190 | 281 => 191 | 282 => 192 | 287 => 165 | 316 => 217 | 171 => 89 | 205 => 218 | 321 => 195 | 322 => 196 | 243 => 140 | 246 => 179 | 283 => 180 | 284 => 181 | 285 => 182 | 286 => 183 | 129 => 164 | 317 => 211 | 318 => 212 | 319 => 213 | 320 => 214 | 337 => 227 | 338 => 228 | n => n, fun | 9 => 9 | 3 => 3 | 75 => 157 | 76 => 158 | 4 => 4 | 5 => 5 | 167 => 224 | 37 => 67 | 0 => 0 | 85 => 225 | 2 => 2 | 168 => 227 | 53 => 141 | 175 => 167 | 46 => 115 | 210 => 245 | 127 => 230 | 145 => 264 | 143 => 262 | 21 => 21 | 171 => 219 | 173 => 221 | 212 => 240 | 51 => 39 | 20 => 20 | 213 => 241 | 232 => 268 | 233 => 269 | 80 => 205 | n => n, fun | 15 => 2 | 16 => 3 | 17 => 1 | 18 => 6 | 19 => 7 | n => n⟩
theorem Tryd.laysC172 : Go.Proofs.LaysC.n172 Tryd.prog Tryd.laysC172_ren := {
  mixed := by kernel_rfl
  f129 := Tryd.func164.trans (congrArg some (by kernel_rfl))
  f171 := Tryd.func89.trans (congrArg some (by kernel_rfl))
  f172 := Tryd.func106.trans (congrArg some (by kernel_rfl))
  f205 := Tryd.func218.trans (congrArg some (by kernel_rfl))
  f243 := Tryd.func140.trans (congrArg some (by kernel_rfl))
  f244 := Tryd.func157.trans (congrArg some (by kernel_rfl))
  f245 := Tryd.func158.trans (congrArg some (by kernel_rfl))
  f246 := Tryd.func179.trans (congrArg some (by kernel_rfl))
  f247 := Tryd.func188.trans (congrArg some (by kernel_rfl))
  f279 := Tryd.func189.trans (congrArg some (by kernel_rfl))
  f280 := Tryd.func190.trans (congrArg some (by kernel_rfl))
  f281 := Tryd.func191.trans (congrArg some (by kernel_rfl))
  f282 := Tryd.func192.trans (congrArg some (by kernel_rfl))
  f283 := Tryd.func180.trans (congrArg some (by kernel_rfl))
  f284 := Tryd.func181.trans (congrArg some (by kernel_rfl))
  f285 := Tryd.func182.trans (congrArg some (by kernel_rfl))
  f286 := Tryd.func183.trans (congrArg some (by kernel_rfl))
  f287 := Tryd.func165.trans (congrArg some (by kernel_rfl))
  f316 := Tryd.func217.trans (congrArg some (by kernel_rfl))
  f317 := Tryd.func211.trans (congrArg some (by kernel_rfl))
  f318 := Tryd.func212.trans (congrArg some (by kernel_rfl))
  f319 := Tryd.func213.trans (congrArg some (by kernel_rfl))
  f320 := Tryd.func214.trans (congrArg some (by kernel_rfl))
  f321 := Tryd.func195.trans (congrArg some (by kernel_rfl))
  f322 := Tryd.func196.trans (congrArg some (by kernel_rfl))
  f337 := Tryd.func227.trans (congrArg some (by kernel_rfl))
  f338 := Tryd.func228.trans (congrArg some (by kernel_rfl))
  t0 := Tryd.underlying0
  a0 := Tryd.isAgg0
  z0 := Tryd.sizeOf0
  v0 := Tryd.zeroValue0
  t2 := Tryd.underlying2
  a2 := Tryd.isAgg2
  z2 := Tryd.sizeOf2
  v2 := Tryd.zeroValue2
  t3 := Tryd.underlying3
  a3 := Tryd.isAgg3
  z3 := Tryd.sizeOf3
  v3 := Tryd.zeroValue3
  t4 := Tryd.underlying4
  a4 := Tryd.isAgg4
  z4 := Tryd.sizeOf4
  v4 := Tryd.zeroValue4
  t5 := Tryd.underlying5
  a5 := Tryd.isAgg5
  z5 := Tryd.sizeOf5
  v5 := Tryd.zeroValue5
  t9 := Tryd.underlying9
  a9 := Tryd.isAgg9
  z9 := Tryd.sizeOf9
  v9 := Tryd.zeroValue9
  t20 := Tryd.underlying20
  a20 := Tryd.isAgg20
  z20 := Tryd.sizeOf20
  v20 := Tryd.zeroValue20
  t21 := Tryd.underlying21
  a21 := Tryd.isAgg21
  z21 := Tryd.sizeOf21
  v21 := Tryd.zeroValue21
  t37 := Tryd.underlying67
  a37 := Tryd.isAgg67
  z37 := Tryd.sizeOf67
  v37 := Tryd.zeroValue67
  t46 := Tryd.underlying115
  a46 := Tryd.isAgg115
  z46 := Tryd.sizeOf115
  v46 := Tryd.zeroValue115
  t51 := Tryd.underlying39
  a51 := Tryd.isAgg39
  z51 := Tryd.sizeOf39
  v51 := Tryd.zeroValue39
  t53 := Tryd.underlying141
  a53 := Tryd.isAgg141
  z53 := Tryd.sizeOf141
  v53 := Tryd.zeroValue141
  t75 := Tryd.underlying157
  a75 := Tryd.isAgg157
  z75 := Tryd.sizeOf157
  v75 := Tryd.zeroValue157
  t76 := Tryd.underlying158
  a76 := Tryd.isAgg158
  z76 := Tryd.sizeOf158
  v76 := Tryd.zeroValue158
  t85 := Tryd.underlying225
  a85 := Tryd.isAgg225
  z85 := Tryd.sizeOf225
  v85 := Tryd.zeroValue225
  t127 := Tryd.underlying230
  a127 := Tryd.isAgg230
  z127 := Tryd.sizeOf230
  v127 := Tryd.zeroValue230
  t143 := Tryd.underlying262
  a143 := Tryd.isAgg262
  z143 := Tryd.sizeOf262
  v143 := Tryd.zeroValue262
  t145 := Tryd.underlying264
  a145 := Tryd.isAgg264
  z145 := Tryd.sizeOf264
  v145 := Tryd.zeroValue264
  t167 := Tryd.underlying224
  a167 := Tryd.isAgg224
  z167 := Tryd.sizeOf224
  v167 := Tryd.zeroValue224
  t168 := Tryd.underlying227
  a168 := Tryd.isAgg227
  z168 := Tryd.sizeOf227
  v168 := Tryd.zeroValue227
  t171 := Tryd.underlying219
  a171 := Tryd.isAgg219
  z171 := Tryd.sizeOf219
  v171 := Tryd.zeroValue219
  t173 := Tryd.underlying221
  a173 := Tryd.isAgg221
  z173 := Tryd.sizeOf221
  v173 := Tryd.zeroValue221
  t175 := Tryd.underlying167
  a175 := Tryd.isAgg167
  z175 := Tryd.sizeOf167
  v175 := Tryd.zeroValue167
  t210 := Tryd.underlying245
  a210 := Tryd.isAgg245
  z210 := Tryd.sizeOf245
  v210 := Tryd.zeroValue245
  t212 := Tryd.underlying240
  a212 := Tryd.isAgg240
  z212 := Tryd.sizeOf240
  v212 := Tryd.zeroValue240
  t213 := Tryd.underlying241
  a213 := Tryd.isAgg241
  z213 := Tryd.sizeOf241
  t232 := Tryd.underlying268
  a232 := Tryd.isAgg268
  z232 := Tryd.sizeOf268
  v232 := Tryd.zeroValue268
  t233 := Tryd.underlying269
  a233 := Tryd.isAgg269
  z233 := Tryd.sizeOf269
  v233 := Tryd.zeroValue269
  g15 := by kernel_rfl
  g16 := by kernel_rfl
  g17 := by kernel_rfl
  g18 := by kernel_rfl
  g19 := by kernel_rfl
  t80 := Tryd.underlying205
  a80 := Tryd.isAgg205
  z80 := Tryd.sizeOf205
  v80 := Tryd.zeroValue205
  i0 := by kernel_rfl
  i2 := by kernel_rfl
  i3 := by kernel_rfl
  i4 := by kernel_rfl
  i5 := by kernel_rfl
  i9 := by kernel_rfl
  i20 := by kernel_rfl
  i21 := by kernel_rfl
  i37 := by kernel_rfl
  i46 := by kernel_rfl
  i51 := by kernel_rfl
  i53 := by kernel_rfl
  i75 := by kernel_rfl
  i76 := by kernel_rfl
  i80 := by kernel_rfl
  i85 := by kernel_rfl
  i127 := by kernel_rfl
  i143 := by kernel_rfl
  i145 := by kernel_rfl
  i167 := by kernel_rfl
  i168 := by kernel_rfl
  i171 := by kernel_rfl
  i173 := by kernel_rfl
  i175 := by kernel_rfl
  i210 := by kernel_rfl
  i212 := by kernel_rfl
  i232 := by kernel_rfl
  i233 := by kernel_rfl
  m15 := by kernel_rfl
  m16 := by kernel_rfl
  m17 := by kernel_rfl
  m18 := by kernel_rfl
  m19 := by kernel_rfl
  c0 := by kernel_rfl
  c2 := by kernel_rfl
  c3 := by kernel_rfl
  c4 := by kernel_rfl
  c5 := by kernel_rfl
  c9 := by kernel_rfl
  c20 := by kernel_rfl
  c21 := by kernel_rfl
  c37 := by kernel_rfl
  c46 := by kernel_rfl
  c51 := by kernel_rfl
  c53 := by kernel_rfl
  c75 := by kernel_rfl
  c76 := by kernel_rfl
  c80 := by kernel_rfl
  c85 := by kernel_rfl
  c127 := by kernel_rfl
  c143 := by kernel_rfl
  c145 := by kernel_rfl
  c167 := by kernel_rfl
  c168 := by kernel_rfl
  c171 := by kernel_rfl
  c173 := by kernel_rfl
  c175 := by kernel_rfl
  c210 := by kernel_rfl
  c212 := by kernel_rfl
  c213 := by kernel_rfl
  c232 := by kernel_rfl
  c233 := by kernel_rfl }
open Go.RowKit in
/-- strconv.Atoi, where it tells a number. -/
theorem Tryd.strconv_Atoi_ok (s : ByteArray) (hmax : s.size ≤ 9223372036854775806) (v : Int) (h : Lib.atoiAll s.data.toList = .ok v) (w : World) :
    Calls Tryd.prog 106 #[.string s] w fun e w' => e = .returned (.tuple #[.int .i64 v, .nilIface]) ∧ (w' = w ∨ ∃ t, w' = Lib.bytesWorld w 5 t) := Any.strconv_Atoi_ok Tryd.laysC172 s hmax v h w
open Go.RowKit in
/-- strconv.Atoi, where it tells of a fault. -/
theorem Tryd.strconv_Atoi_none (s : ByteArray) (hlim : s.size ≤ 281474976710656) (h1 : ∀ v, Lib.atoiAll s.data.toList ≠ .ok v) (h2 : Lib.atoiAll s.data.toList ≠ .range) (ev : Value) (w : World) (hv : w.cell? ⟨2, 0, none⟩ = some ev) (hev : ev = .nilIface ∨ ∃ te pe, ev = .iface te pe) :
    Calls Tryd.prog 106 #[.string s] w fun e w' => ∃ N, e = .returned (.tuple #[.int .i64 (0), .iface 227 (.pointer (some ⟨N, 0, none⟩))]) ∧ w.heap.size ≤ N ∧ w'.heap[N]? = some (.cells #[.string ⟨#[65, 116, 111, 105]⟩, .string s, ev] 245 (0, 0)) ∧ Below w.heap.size w w' := by
  rcases e : Lib.atoiAll s.data.toList with v | _ | _
  · exact absurd e (h1 v)
  · exact Any.strconv_Atoi_syntax Tryd.laysC172 s hlim e ev w hv hev
  · exact absurd e h2
open Go.RowKit in
/-- strconv.Atoi, where the number is too great. -/
theorem Tryd.strconv_Atoi_range (s : ByteArray) (hlim : s.size ≤ 281474976710656) (h : Lib.atoiAll s.data.toList = .range) (ev : Value) (w : World) (hv : w.cell? ⟨3, 0, none⟩ = some ev) (hev : ev = .nilIface ∨ ∃ te pe, ev = .iface te pe) :
    Calls Tryd.prog 106 #[.string s] w fun e w' => ∃ N, e = .returned (.tuple #[.int .i64 (Lib.atoiSat s.data.toList), .iface 227 (.pointer (some ⟨N, 0, none⟩))]) ∧ w.heap.size ≤ N ∧ w'.heap[N]? = some (.cells #[.string ⟨#[65, 116, 111, 105]⟩, .string s, ev] 245 (0, 0)) ∧ Below w.heap.size w w' := Any.strconv_Atoi_range Tryd.laysC172 s hlim h ev w hv hev
end Go.Proofs
